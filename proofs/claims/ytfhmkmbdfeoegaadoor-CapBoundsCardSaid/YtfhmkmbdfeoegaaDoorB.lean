/- The contracts of Seal, Unseal, Sub, of the reference's functions and of the law's own 'Of' and 'less': what each returns, and that nothing that was there is changed. No condition but that numbers fit their kinds. -/
import Derived.Test.YtfhmkmbdfeoegaaDoorA
namespace Go.Proofs.YtfhmkmbdfeoegaaDoor
open Go.RowKit
set_option linter.unusedVariables false
set_option linter.unusedSimpArgs false

theorem bc3 {w w1 : World} {A B C : Array Value} {s t u : TypeId} (hb : Below (((w.alloc (.cells A s)).alloc (.cells B t)).alloc (.cells C u)).heap.size (((w.alloc (.cells A s)).alloc (.cells B t)).alloc (.cells C u)) w1) :
    (∀ o, w1.cell? ⟨w.heap.size, o, none⟩ = A[o]?) ∧ (∀ o, w1.cell? ⟨w.heap.size + 1, o, none⟩ = B[o]?) ∧ (∀ o, w1.cell? ⟨w.heap.size + 2, o, none⟩ = C[o]?) ∧
    (∀ o, w1.frozen? ⟨w.heap.size, o, none⟩ = false) ∧ (∀ o, w1.frozen? ⟨w.heap.size + 1, o, none⟩ = false) ∧ (∀ o, w1.frozen? ⟨w.heap.size + 2, o, none⟩ = false) ∧
    w.heap.size < w1.heap.size ∧ w.heap.size + 1 < w1.heap.size ∧ w.heap.size + 2 < w1.heap.size := by
  obtain ⟨c0, f0, z0⟩ := bc hb (n := w.heap.size) (by simp; omega)
  obtain ⟨c1, f1, z1⟩ := bc hb (n := w.heap.size + 1) (by simp)
  obtain ⟨c2, f2, z2⟩ := bc hb (n := w.heap.size + 2) (by simp)
  refine ⟨fun o => ?_, fun o => ?_, fun o => ?_, fun o => ?_, fun o => ?_, fun o => ?_, z0, z1, z2⟩
  · rw [c0, World.cell?_alloc_past _ _ _ (by simp; omega), World.cell?_alloc_past _ _ _ (by simp), World.cell?_alloc_at _ _ _ _ rfl]
  · rw [c1, World.cell?_alloc_past _ _ _ (by simp), World.cell?_alloc_at _ _ _ _ (by simp)]
  · rw [c2, World.cell?_alloc_at _ _ _ _ (by simp)]
  · rw [f0]; simp [go_sem]
  · rw [f1]; simp [go_sem]
  · rw [f2]; simp [go_sem]

set_option maxHeartbeats 1000000 in
theorem seal_yes (tg : Bool) (b t a p y : Int) (ktg : Bool) (kb kt ka kp ky : Int) (w : World) (hkt : U32 kt) (hka : U32 ka) (h : sealB y ktg kb kt ka kp ky = true) :
    Calls Tryd.prog 19 #[.agg #[.bool tg, .int .u32 b, .int .u32 t, .int .u32 a, .int .u16 p, .int .u16 y], .agg #[.bool ktg, .int .u32 kb, .int .u32 kt, .int .u32 ka, .int .u16 kp, .int .u16 ky]] w fun e w' =>
      e = .returned (.agg #[.bool (tg), .int .u32 (b), .int .u32 (t), .int .u32 (a), .int .u16 (p), .int .u16 (ka)]) ∧ Below w.heap.size w w' := by
  simp only [sealB, Bool.and_eq_true, decide_eq_true_eq] at h
  obtain ⟨⟨⟨⟨g1, rfl⟩, g3⟩, g4⟩, g5⟩ := h
  go_enter Tryd.func19, Tryd.ntmps19
  go_wp2_with (first | (go_at_call 41; (with_reducible refine (may0_c _ _ _ _ _ _ _).mono ?_); rintro e w1 ⟨rfl, hb1⟩; obtain ⟨c10, c11, c12, f10, f11, f12, z10, z11, z12⟩ := bc3 hb1) | (go_at_call 41; refine (may2_c _ _ _ _ _ _ _ _ hkt hka).mono ?_; rintro e w3 ⟨rfl, hb3⟩; obtain ⟨c30, f30, z30⟩ := bc hb3 (n := w.heap.size) (by first | assumption | (simp; done) | (simp; omega)); obtain ⟨c31, f31, z31⟩ := bc hb3 (n := w.heap.size + 1) (by first | assumption | (simp; done) | (simp; omega)); obtain ⟨c32, f32, z32⟩ := bc hb3 (n := w.heap.size + 2) (by first | assumption | (simp; done) | (simp; omega))) | (go_at_call 40; refine (kept_c _ _ _ _ _ _ _ _).mono ?_; rintro e w2 ⟨rfl, hb2⟩; obtain ⟨c20, f20, z20⟩ := bc hb2 (n := w.heap.size) (by first | assumption | (simp; done) | (simp; omega)); obtain ⟨c21, f21, z21⟩ := bc hb2 (n := w.heap.size + 1) (by first | assumption | (simp; done) | (simp; omega)); obtain ⟨c22, f22, z22⟩ := bc hb2 (n := w.heap.size + 2) (by first | assumption | (simp; done) | (simp; omega))))
  refine bodyPost_ret (v := .agg #[.bool (tg), .int .u32 (b), .int .u32 (t), .int .u32 (a), .int .u16 (p), .int .u16 (ka)]) (by simp [results, Tryd.results19, go_sem, c22, c12, c32]) rfl ⟨rfl, by repeat (first | (with_reducible exact b0 _) | (with_reducible refine bs ?_ (by first | (simp; done) | (simp; omega)) _) | (with_reducible refine ba ?_ _) | (with_reducible refine Below.drew ?_) | (with_reducible refine bt ?_ hb2) | (with_reducible refine bt ?_ hb1) | (with_reducible refine bt ?_ hb3))⟩

set_option maxHeartbeats 1000000 in
theorem seal_no (tg : Bool) (b t a p y : Int) (ktg : Bool) (kb kt ka kp ky : Int) (w : World) (hkt : U32 kt) (hka : U32 ka) (h : sealB y ktg kb kt ka kp ky = false) :
    Calls Tryd.prog 19 #[.agg #[.bool tg, .int .u32 b, .int .u32 t, .int .u32 a, .int .u16 p, .int .u16 y], .agg #[.bool ktg, .int .u32 kb, .int .u32 kt, .int .u32 ka, .int .u16 kp, .int .u16 ky]] w fun e w' =>
      e = .returned (.agg #[.bool (false), .int .u32 (b), .int .u32 (t), .int .u32 (a), .int .u16 (p), .int .u16 (y)]) ∧ Below w.heap.size w w' := by
  rcases Bool.eq_false_or_eq_true (y == 0) with g1 | g1
  · cases ktg
    · go_enter Tryd.func19, Tryd.ntmps19
      go_wp2_with (first | (go_at_call 41; (with_reducible refine (may0_c _ _ _ _ _ _ _).mono ?_); rintro e w1 ⟨rfl, hb1⟩; obtain ⟨c10, c11, c12, f10, f11, f12, z10, z11, z12⟩ := bc3 hb1) | (go_at_call 41; refine (may2_c _ _ _ _ _ _ _ _ hkt hka).mono ?_; rintro e w3 ⟨rfl, hb3⟩; obtain ⟨c30, f30, z30⟩ := bc hb3 (n := w.heap.size) (by first | assumption | (simp; done) | (simp; omega)); obtain ⟨c31, f31, z31⟩ := bc hb3 (n := w.heap.size + 1) (by first | assumption | (simp; done) | (simp; omega)); obtain ⟨c32, f32, z32⟩ := bc hb3 (n := w.heap.size + 2) (by first | assumption | (simp; done) | (simp; omega))) | (go_at_call 40; refine (kept_c _ _ _ _ _ _ _ _).mono ?_; rintro e w2 ⟨rfl, hb2⟩; obtain ⟨c20, f20, z20⟩ := bc hb2 (n := w.heap.size) (by first | assumption | (simp; done) | (simp; omega)); obtain ⟨c21, f21, z21⟩ := bc hb2 (n := w.heap.size + 1) (by first | assumption | (simp; done) | (simp; omega)); obtain ⟨c22, f22, z22⟩ := bc hb2 (n := w.heap.size + 2) (by first | assumption | (simp; done) | (simp; omega))))
      refine bodyPost_ret (v := .agg #[.bool (tg && false), .int .u32 (b), .int .u32 (t), .int .u32 (a), .int .u16 (p), .int .u16 (y)]) (by simp [results, Tryd.results19, go_sem, c22, c12]) rfl ⟨by rw [Bool.and_false], by repeat (first | (with_reducible exact b0 _) | (with_reducible refine bs ?_ (by first | (simp; done) | (simp; omega)) _) | (with_reducible refine ba ?_ _) | (with_reducible refine Below.drew ?_) | (with_reducible refine bt ?_ hb2) | (with_reducible refine bt ?_ hb1))⟩
    · rcases Bool.eq_false_or_eq_true (may2B kb kt ka kp ky 32) with g3 | g3
      · by_cases g4 : 2 ≤ ka
        · by_cases g5 : ka < 1024
          · simp [sealB, g1, g3, g4, g5] at h
          · go_enter Tryd.func19, Tryd.ntmps19
            go_wp2_with (first | (go_at_call 41; (with_reducible refine (may0_c _ _ _ _ _ _ _).mono ?_); rintro e w1 ⟨rfl, hb1⟩; obtain ⟨c10, c11, c12, f10, f11, f12, z10, z11, z12⟩ := bc3 hb1) | (go_at_call 41; refine (may2_c _ _ _ _ _ _ _ _ hkt hka).mono ?_; rintro e w3 ⟨rfl, hb3⟩; obtain ⟨c30, f30, z30⟩ := bc hb3 (n := w.heap.size) (by first | assumption | (simp; done) | (simp; omega)); obtain ⟨c31, f31, z31⟩ := bc hb3 (n := w.heap.size + 1) (by first | assumption | (simp; done) | (simp; omega)); obtain ⟨c32, f32, z32⟩ := bc hb3 (n := w.heap.size + 2) (by first | assumption | (simp; done) | (simp; omega))) | (go_at_call 40; refine (kept_c _ _ _ _ _ _ _ _).mono ?_; rintro e w2 ⟨rfl, hb2⟩; obtain ⟨c20, f20, z20⟩ := bc hb2 (n := w.heap.size) (by first | assumption | (simp; done) | (simp; omega)); obtain ⟨c21, f21, z21⟩ := bc hb2 (n := w.heap.size + 1) (by first | assumption | (simp; done) | (simp; omega)); obtain ⟨c22, f22, z22⟩ := bc hb2 (n := w.heap.size + 2) (by first | assumption | (simp; done) | (simp; omega))))
            have g6 : 1024 ≤ ka := by omega
            refine bodyPost_ret (v := .agg #[.bool (tg && false), .int .u32 (b), .int .u32 (t), .int .u32 (a), .int .u16 (p), .int .u16 (y)]) (by simp [results, Tryd.results19, go_sem, g6, c22, c12, c32]) rfl ⟨by rw [Bool.and_false], by repeat (first | (with_reducible exact b0 _) | (with_reducible refine bs ?_ (by first | (simp; done) | (simp; omega)) _) | (with_reducible refine ba ?_ _) | (with_reducible refine Below.drew ?_) | (with_reducible refine bt ?_ hb2) | (with_reducible refine bt ?_ hb1) | (with_reducible refine bt ?_ hb3))⟩
        · go_enter Tryd.func19, Tryd.ntmps19
          go_wp2_with (first | (go_at_call 41; (with_reducible refine (may0_c _ _ _ _ _ _ _).mono ?_); rintro e w1 ⟨rfl, hb1⟩; obtain ⟨c10, c11, c12, f10, f11, f12, z10, z11, z12⟩ := bc3 hb1) | (go_at_call 41; refine (may2_c _ _ _ _ _ _ _ _ hkt hka).mono ?_; rintro e w3 ⟨rfl, hb3⟩; obtain ⟨c30, f30, z30⟩ := bc hb3 (n := w.heap.size) (by first | assumption | (simp; done) | (simp; omega)); obtain ⟨c31, f31, z31⟩ := bc hb3 (n := w.heap.size + 1) (by first | assumption | (simp; done) | (simp; omega)); obtain ⟨c32, f32, z32⟩ := bc hb3 (n := w.heap.size + 2) (by first | assumption | (simp; done) | (simp; omega))) | (go_at_call 40; refine (kept_c _ _ _ _ _ _ _ _).mono ?_; rintro e w2 ⟨rfl, hb2⟩; obtain ⟨c20, f20, z20⟩ := bc hb2 (n := w.heap.size) (by first | assumption | (simp; done) | (simp; omega)); obtain ⟨c21, f21, z21⟩ := bc hb2 (n := w.heap.size + 1) (by first | assumption | (simp; done) | (simp; omega)); obtain ⟨c22, f22, z22⟩ := bc hb2 (n := w.heap.size + 2) (by first | assumption | (simp; done) | (simp; omega))))
          refine bodyPost_ret (v := .agg #[.bool (tg && false), .int .u32 (b), .int .u32 (t), .int .u32 (a), .int .u16 (p), .int .u16 (y)]) (by simp [results, Tryd.results19, go_sem, c22, c12, c32]) rfl ⟨by rw [Bool.and_false], by repeat (first | (with_reducible exact b0 _) | (with_reducible refine bs ?_ (by first | (simp; done) | (simp; omega)) _) | (with_reducible refine ba ?_ _) | (with_reducible refine Below.drew ?_) | (with_reducible refine bt ?_ hb2) | (with_reducible refine bt ?_ hb1) | (with_reducible refine bt ?_ hb3))⟩
      · go_enter Tryd.func19, Tryd.ntmps19
        go_wp2_with (first | (go_at_call 41; (with_reducible refine (may0_c _ _ _ _ _ _ _).mono ?_); rintro e w1 ⟨rfl, hb1⟩; obtain ⟨c10, c11, c12, f10, f11, f12, z10, z11, z12⟩ := bc3 hb1) | (go_at_call 41; refine (may2_c _ _ _ _ _ _ _ _ hkt hka).mono ?_; rintro e w3 ⟨rfl, hb3⟩; obtain ⟨c30, f30, z30⟩ := bc hb3 (n := w.heap.size) (by first | assumption | (simp; done) | (simp; omega)); obtain ⟨c31, f31, z31⟩ := bc hb3 (n := w.heap.size + 1) (by first | assumption | (simp; done) | (simp; omega)); obtain ⟨c32, f32, z32⟩ := bc hb3 (n := w.heap.size + 2) (by first | assumption | (simp; done) | (simp; omega))) | (go_at_call 40; refine (kept_c _ _ _ _ _ _ _ _).mono ?_; rintro e w2 ⟨rfl, hb2⟩; obtain ⟨c20, f20, z20⟩ := bc hb2 (n := w.heap.size) (by first | assumption | (simp; done) | (simp; omega)); obtain ⟨c21, f21, z21⟩ := bc hb2 (n := w.heap.size + 1) (by first | assumption | (simp; done) | (simp; omega)); obtain ⟨c22, f22, z22⟩ := bc hb2 (n := w.heap.size + 2) (by first | assumption | (simp; done) | (simp; omega))))
        refine bodyPost_ret (v := .agg #[.bool (tg && false), .int .u32 (b), .int .u32 (t), .int .u32 (a), .int .u16 (p), .int .u16 (y)]) (by simp [results, Tryd.results19, go_sem, c22, c12, c32]) rfl ⟨by rw [Bool.and_false], by repeat (first | (with_reducible exact b0 _) | (with_reducible refine bs ?_ (by first | (simp; done) | (simp; omega)) _) | (with_reducible refine ba ?_ _) | (with_reducible refine Below.drew ?_) | (with_reducible refine bt ?_ hb2) | (with_reducible refine bt ?_ hb1) | (with_reducible refine bt ?_ hb3))⟩
  · go_enter Tryd.func19, Tryd.ntmps19
    go_wp2_with (first | (go_at_call 41; (with_reducible refine (may0_c _ _ _ _ _ _ _).mono ?_); rintro e w1 ⟨rfl, hb1⟩; obtain ⟨c10, c11, c12, f10, f11, f12, z10, z11, z12⟩ := bc3 hb1) | (go_at_call 41; refine (may2_c _ _ _ _ _ _ _ _ hkt hka).mono ?_; rintro e w3 ⟨rfl, hb3⟩; obtain ⟨c30, f30, z30⟩ := bc hb3 (n := w.heap.size) (by first | assumption | (simp; done) | (simp; omega)); obtain ⟨c31, f31, z31⟩ := bc hb3 (n := w.heap.size + 1) (by first | assumption | (simp; done) | (simp; omega)); obtain ⟨c32, f32, z32⟩ := bc hb3 (n := w.heap.size + 2) (by first | assumption | (simp; done) | (simp; omega))) | (go_at_call 40; refine (kept_c _ _ _ _ _ _ _ _).mono ?_; rintro e w2 ⟨rfl, hb2⟩; obtain ⟨c20, f20, z20⟩ := bc hb2 (n := w.heap.size) (by first | assumption | (simp; done) | (simp; omega)); obtain ⟨c21, f21, z21⟩ := bc hb2 (n := w.heap.size + 1) (by first | assumption | (simp; done) | (simp; omega)); obtain ⟨c22, f22, z22⟩ := bc hb2 (n := w.heap.size + 2) (by first | assumption | (simp; done) | (simp; omega))))
    refine bodyPost_ret (v := .agg #[.bool (tg && false), .int .u32 (b), .int .u32 (t), .int .u32 (a), .int .u16 (p), .int .u16 (y)]) (by simp [results, Tryd.results19, go_sem, c22, c12]) rfl ⟨by rw [Bool.and_false], by repeat (first | (with_reducible exact b0 _) | (with_reducible refine bs ?_ (by first | (simp; done) | (simp; omega)) _) | (with_reducible refine ba ?_ _) | (with_reducible refine Below.drew ?_) | (with_reducible refine bt ?_ hb2) | (with_reducible refine bt ?_ hb1))⟩

set_option maxHeartbeats 1000000 in
theorem unseal_yes (tg : Bool) (b t a p y : Int) (ktg : Bool) (kb kt ka kp ky : Int) (w : World) (hy : U16 y) (hkt : U32 kt) (hka : U32 ka) (h : unsealB y ktg kb kt ka kp ky = true) :
    Calls Tryd.prog 20 #[.agg #[.bool tg, .int .u32 b, .int .u32 t, .int .u32 a, .int .u16 p, .int .u16 y], .agg #[.bool ktg, .int .u32 kb, .int .u32 kt, .int .u32 ka, .int .u16 kp, .int .u16 ky]] w fun e w' =>
      e = .returned (.agg #[.bool (tg), .int .u32 (b), .int .u32 (t), .int .u32 (a), .int .u16 (p), .int .u16 (0)]) ∧ Below w.heap.size w w' := by
  simp only [unsealB, Bool.and_eq_true, decide_eq_true_eq] at h
  obtain ⟨⟨⟨g1, rfl⟩, g3⟩, g4⟩ := h
  obtain ⟨y0, y1⟩ := hy
  go_enter Tryd.func20, Tryd.ntmps20
  go_wp2_with (first | (go_at_call 41; (with_reducible refine (may2_c _ _ _ _ _ _ _ _ hkt hka).mono ?_); rintro e w3 ⟨rfl, hb3⟩; obtain ⟨c30, c31, c32, f30, f31, f32, z30, z31, z32⟩ := bc3 hb3) | (go_at_call 40; refine (kept_c _ _ _ _ _ _ _ _).mono ?_; rintro e w2 ⟨rfl, hb2⟩; obtain ⟨c20, f20, z20⟩ := bc hb2 (n := w.heap.size) (by first | assumption | (simp; done) | (simp; omega)); obtain ⟨c21, f21, z21⟩ := bc hb2 (n := w.heap.size + 1) (by first | assumption | (simp; done) | (simp; omega)); obtain ⟨c22, f22, z22⟩ := bc hb2 (n := w.heap.size + 2) (by first | assumption | (simp; done) | (simp; omega))))
  refine bodyPost_ret (v := .agg #[.bool (tg), .int .u32 (b), .int .u32 (t), .int .u32 (a), .int .u16 (p), .int .u16 (0)]) (by simp [results, Tryd.results20, go_sem, c22, c32]) rfl ⟨rfl, by repeat (first | (with_reducible exact b0 _) | (with_reducible refine bs ?_ (by first | (simp; done) | (simp; omega)) _) | (with_reducible refine ba ?_ _) | (with_reducible refine Below.drew ?_) | (with_reducible refine bt ?_ hb2) | (with_reducible refine bt ?_ hb3))⟩

set_option maxHeartbeats 1000000 in
theorem unseal_no (tg : Bool) (b t a p y : Int) (ktg : Bool) (kb kt ka kp ky : Int) (w : World) (hy : U16 y) (hkt : U32 kt) (hka : U32 ka) (h : unsealB y ktg kb kt ka kp ky = false) :
    Calls Tryd.prog 20 #[.agg #[.bool tg, .int .u32 b, .int .u32 t, .int .u32 a, .int .u16 p, .int .u16 y], .agg #[.bool ktg, .int .u32 kb, .int .u32 kt, .int .u32 ka, .int .u16 kp, .int .u16 ky]] w fun e w' =>
      e = .returned (.agg #[.bool (false), .int .u32 (b), .int .u32 (t), .int .u32 (a), .int .u16 (p), .int .u16 (y)]) ∧ Below w.heap.size w w' := by
  obtain ⟨y0, y1⟩ := hy
  by_cases g1 : 2 ≤ y
  · cases ktg
    · go_enter Tryd.func20, Tryd.ntmps20
      go_wp2_with (first | (go_at_call 41; (with_reducible refine (may2_c _ _ _ _ _ _ _ _ hkt hka).mono ?_); rintro e w3 ⟨rfl, hb3⟩; obtain ⟨c30, c31, c32, f30, f31, f32, z30, z31, z32⟩ := bc3 hb3) | (go_at_call 40; refine (kept_c _ _ _ _ _ _ _ _).mono ?_; rintro e w2 ⟨rfl, hb2⟩; obtain ⟨c20, f20, z20⟩ := bc hb2 (n := w.heap.size) (by first | assumption | (simp; done) | (simp; omega)); obtain ⟨c21, f21, z21⟩ := bc hb2 (n := w.heap.size + 1) (by first | assumption | (simp; done) | (simp; omega)); obtain ⟨c22, f22, z22⟩ := bc hb2 (n := w.heap.size + 2) (by first | assumption | (simp; done) | (simp; omega))))
      refine bodyPost_ret (v := .agg #[.bool (tg && false), .int .u32 (b), .int .u32 (t), .int .u32 (a), .int .u16 (p), .int .u16 (y)]) (by simp [results, Tryd.results20, go_sem, c22]) rfl ⟨by rw [Bool.and_false], by repeat (first | (with_reducible exact b0 _) | (with_reducible refine bs ?_ (by first | (simp; done) | (simp; omega)) _) | (with_reducible refine ba ?_ _) | (with_reducible refine Below.drew ?_) | (with_reducible refine bt ?_ hb2))⟩
    · rcases Bool.eq_false_or_eq_true (may2B kb kt ka kp ky 64) with g3 | g3
      · rcases Bool.eq_false_or_eq_true (ka == y) with g4 | g4
        · simp [unsealB, g1, g3, g4] at h
        · go_enter Tryd.func20, Tryd.ntmps20
          go_wp2_with (first | (go_at_call 41; (with_reducible refine (may2_c _ _ _ _ _ _ _ _ hkt hka).mono ?_); rintro e w3 ⟨rfl, hb3⟩; obtain ⟨c30, c31, c32, f30, f31, f32, z30, z31, z32⟩ := bc3 hb3) | (go_at_call 40; refine (kept_c _ _ _ _ _ _ _ _).mono ?_; rintro e w2 ⟨rfl, hb2⟩; obtain ⟨c20, f20, z20⟩ := bc hb2 (n := w.heap.size) (by first | assumption | (simp; done) | (simp; omega)); obtain ⟨c21, f21, z21⟩ := bc hb2 (n := w.heap.size + 1) (by first | assumption | (simp; done) | (simp; omega)); obtain ⟨c22, f22, z22⟩ := bc hb2 (n := w.heap.size + 2) (by first | assumption | (simp; done) | (simp; omega))))
          refine bodyPost_ret (v := .agg #[.bool (tg && false), .int .u32 (b), .int .u32 (t), .int .u32 (a), .int .u16 (p), .int .u16 (y)]) (by simp [results, Tryd.results20, go_sem, c22, c32]) rfl ⟨by rw [Bool.and_false], by repeat (first | (with_reducible exact b0 _) | (with_reducible refine bs ?_ (by first | (simp; done) | (simp; omega)) _) | (with_reducible refine ba ?_ _) | (with_reducible refine Below.drew ?_) | (with_reducible refine bt ?_ hb2) | (with_reducible refine bt ?_ hb3))⟩
      · go_enter Tryd.func20, Tryd.ntmps20
        go_wp2_with (first | (go_at_call 41; (with_reducible refine (may2_c _ _ _ _ _ _ _ _ hkt hka).mono ?_); rintro e w3 ⟨rfl, hb3⟩; obtain ⟨c30, c31, c32, f30, f31, f32, z30, z31, z32⟩ := bc3 hb3) | (go_at_call 40; refine (kept_c _ _ _ _ _ _ _ _).mono ?_; rintro e w2 ⟨rfl, hb2⟩; obtain ⟨c20, f20, z20⟩ := bc hb2 (n := w.heap.size) (by first | assumption | (simp; done) | (simp; omega)); obtain ⟨c21, f21, z21⟩ := bc hb2 (n := w.heap.size + 1) (by first | assumption | (simp; done) | (simp; omega)); obtain ⟨c22, f22, z22⟩ := bc hb2 (n := w.heap.size + 2) (by first | assumption | (simp; done) | (simp; omega))))
        refine bodyPost_ret (v := .agg #[.bool (tg && false), .int .u32 (b), .int .u32 (t), .int .u32 (a), .int .u16 (p), .int .u16 (y)]) (by simp [results, Tryd.results20, go_sem, c22, c32]) rfl ⟨by rw [Bool.and_false], by repeat (first | (with_reducible exact b0 _) | (with_reducible refine bs ?_ (by first | (simp; done) | (simp; omega)) _) | (with_reducible refine ba ?_ _) | (with_reducible refine Below.drew ?_) | (with_reducible refine bt ?_ hb2) | (with_reducible refine bt ?_ hb3))⟩
  · go_enter Tryd.func20, Tryd.ntmps20
    go_wp2_with (first | (go_at_call 41; (with_reducible refine (may2_c _ _ _ _ _ _ _ _ hkt hka).mono ?_); rintro e w3 ⟨rfl, hb3⟩; obtain ⟨c30, c31, c32, f30, f31, f32, z30, z31, z32⟩ := bc3 hb3) | (go_at_call 40; refine (kept_c _ _ _ _ _ _ _ _).mono ?_; rintro e w2 ⟨rfl, hb2⟩; obtain ⟨c20, f20, z20⟩ := bc hb2 (n := w.heap.size) (by first | assumption | (simp; done) | (simp; omega)); obtain ⟨c21, f21, z21⟩ := bc hb2 (n := w.heap.size + 1) (by first | assumption | (simp; done) | (simp; omega)); obtain ⟨c22, f22, z22⟩ := bc hb2 (n := w.heap.size + 2) (by first | assumption | (simp; done) | (simp; omega))))
    refine bodyPost_ret (v := .agg #[.bool (tg && false), .int .u32 (b), .int .u32 (t), .int .u32 (a), .int .u16 (p), .int .u16 (y)]) (by simp [results, Tryd.results20, go_sem, c22]) rfl ⟨by rw [Bool.and_false], by repeat (first | (with_reducible exact b0 _) | (with_reducible refine bs ?_ (by first | (simp; done) | (simp; omega)) _) | (with_reducible refine ba ?_ _) | (with_reducible refine Below.drew ?_) | (with_reducible refine bt ?_ hb2))⟩

set_option maxHeartbeats 1000000 in
theorem sub_c (tg : Bool) (b t a p y : Int) (ktg : Bool) (kb kt ka kp ky : Int) (w : World) :
    Calls Tryd.prog 35 #[.agg #[.bool tg, .int .u32 b, .int .u32 t, .int .u32 a, .int .u16 p, .int .u16 y], .agg #[.bool ktg, .int .u32 kb, .int .u32 kt, .int .u32 ka, .int .u16 kp, .int .u16 ky]] w fun e w' =>
      e = .returned (.bool (subB b t p kb kt kp)) ∧ Below w.heap.size w w' := by
  by_cases g1 : kb ≤ b
  · by_cases g2 : t ≤ kt
    · go_enter Tryd.func35, Tryd.ntmps35
      go_wp2
      go_ret
      exact ⟨by simp only [subB, decide_eq_true g1, decide_eq_true g2, Bool.true_and]; rfl, ba (ba (b0 _) _) _⟩
    · go_enter Tryd.func35, Tryd.ntmps35
      go_wp2
      go_ret
      exact ⟨by rw [show subB b t p kb kt kp = false from by (simp [subB]; omega)]; rfl, ba (ba (b0 _) _) _⟩
  · go_enter Tryd.func35, Tryd.ntmps35
    go_wp2
    go_ret
    exact ⟨by rw [show subB b t p kb kt kp = false from by (simp [subB]; omega)]; rfl, ba (ba (b0 _) _) _⟩

set_option maxHeartbeats 1000000 in
theorem rsub_c (tg : Bool) (b t a p y : Int) (ktg : Bool) (kb kt ka kp ky : Int) (w : World) :
    Calls Tryd.prog 36 #[.agg #[.bool tg, .int .u32 b, .int .u32 t, .int .u32 a, .int .u16 p, .int .u16 y], .agg #[.bool ktg, .int .u32 kb, .int .u32 kt, .int .u32 ka, .int .u16 kp, .int .u16 ky]] w fun e w' =>
      e = .returned (.bool (subB b t p kb kt kp)) ∧ Below w.heap.size w w' := by
  by_cases g1 : kb ≤ b
  · by_cases g2 : t ≤ kt
    · go_enter Tryd.func36, Tryd.ntmps36
      go_wp2
      go_ret
      exact ⟨by simp only [subB, decide_eq_true g1, decide_eq_true g2, Bool.true_and]; rfl, ba (ba (b0 _) _) _⟩
    · go_enter Tryd.func36, Tryd.ntmps36
      go_wp2
      go_ret
      exact ⟨by rw [show subB b t p kb kt kp = false from by (simp [subB]; omega)]; rfl, ba (ba (b0 _) _) _⟩
  · go_enter Tryd.func36, Tryd.ntmps36
    go_wp2
    go_ret
    exact ⟨by rw [show subB b t p kb kt kp = false from by (simp [subB]; omega)]; rfl, ba (ba (b0 _) _) _⟩

set_option maxHeartbeats 1000000 in
theorem of_c (tg : Bool) (b t a p y : Int) (w : World) :
    Calls Tryd.prog 23 #[.agg #[.bool tg, .int .u32 b, .int .u32 t, .int .u32 a, .int .u16 p, .int .u16 y]] w fun e w' =>
      e = .returned (.agg #[.bool (tg), .int .u32 (b), .int .u32 (t), .int .u32 (a), .int .u16 (p), .int .u16 (y)]) ∧ Below w.heap.size w w' := by
  go_enter Tryd.func23, Tryd.ntmps23
  go_wp2
  refine bodyPost_ret (v := .agg #[.bool (tg), .int .u32 (b), .int .u32 (t), .int .u32 (a), .int .u16 (p), .int .u16 (y)]) (by simp [results, Tryd.results23, go_sem]) rfl ⟨rfl, by repeat (first | (with_reducible exact b0 _) | (with_reducible refine bs ?_ (by first | (simp; done) | (simp; omega)) _) | (with_reducible refine ba ?_ _) | (with_reducible refine Below.drew ?_))⟩

set_option maxHeartbeats 1000000 in
theorem rhas_c (tg : Bool) (b t a p y : Int) (x n : Int) (w : World) (ht : U32 t) (hx : U32 x) (hn : U32 n) :
    Calls Tryd.prog 34 #[.agg #[.bool tg, .int .u32 b, .int .u32 t, .int .u32 a, .int .u16 p, .int .u16 y], .int .u32 x, .int .u32 n] w fun e w' =>
      e = .returned (.bool (hasB b t x n)) ∧ Below w.heap.size w w' := by
  obtain ⟨t0, t1⟩ := ht
  obtain ⟨x0, x1⟩ := hx
  obtain ⟨n0, n1⟩ := hn
  by_cases h : b ≤ x
  · go_enter Tryd.func34, Tryd.ntmps34
    go_wp2
    go_ret
    exact ⟨by simp [h, hasB], ba (b0 _) _⟩
  · go_enter Tryd.func34, Tryd.ntmps34
    go_wp2
    go_ret
    exact ⟨by rw [show hasB b t x n = false from by simp [hasB]; omega]; rfl, ba (b0 _) _⟩

set_option maxHeartbeats 1000000 in
theorem asks_c (tg m : Bool) (b t a p y : Int) (w : World) :
    Calls Tryd.prog 42 #[.agg #[.bool tg, .int .u32 b, .int .u32 t, .int .u32 a, .int .u16 p, .int .u16 y], .bool m] w fun e w' =>
      e = .returned (.agg #[.bool (tg && m), .int .u32 (b), .int .u32 (t), .int .u32 (a), .int .u16 (p), .int .u16 (y)]) ∧ Below w.heap.size w w' := by
  cases tg
  · go_enter Tryd.func42, Tryd.ntmps42
    go_wp2
    refine bodyPost_ret (v := .agg #[.bool false, .int .u32 b, .int .u32 t, .int .u32 a, .int .u16 p, .int .u16 y]) (by simp [results, Tryd.results42, go_sem]) rfl ⟨rfl, by repeat (first | (with_reducible exact b0 _) | (with_reducible refine bs ?_ (by first | (simp; done) | (simp; omega)) _) | (with_reducible refine ba ?_ _) | (with_reducible refine Below.drew ?_))⟩
  · go_enter Tryd.func42, Tryd.ntmps42
    go_wp2
    refine bodyPost_ret (v := .agg #[.bool m, .int .u32 b, .int .u32 t, .int .u32 a, .int .u16 p, .int .u16 y]) (by simp [results, Tryd.results42, go_sem]) rfl ⟨rfl, by repeat (first | (with_reducible exact b0 _) | (with_reducible refine bs ?_ (by first | (simp; done) | (simp; omega)) _) | (with_reducible refine ba ?_ _) | (with_reducible refine Below.drew ?_))⟩

set_option maxHeartbeats 1000000 in
theorem rsetAddr_c (tg : Bool) (b t a p y : Int) (x : Int) (w : World) :
    Calls Tryd.prog 24 #[.agg #[.bool tg, .int .u32 b, .int .u32 t, .int .u32 a, .int .u16 p, .int .u16 y], .int .u32 x] w fun e w' =>
      e = .returned (.agg #[.bool (tg && (y == 0)), .int .u32 (b), .int .u32 (t), .int .u32 (x), .int .u16 (p), .int .u16 (y)]) ∧ Below w.heap.size w w' := by
  go_enter Tryd.func24, Tryd.ntmps24
  go_wp2_with (go_at_call 42; refine (asks_c _ _ _ _ _ _ _ _).mono ?_; rintro e w2 ⟨rfl, hb2⟩; obtain ⟨c20, f20, z20⟩ := bc hb2 (n := w.heap.size) (by first | assumption | (simp; done) | (simp; omega)); obtain ⟨c21, f21, z21⟩ := bc hb2 (n := w.heap.size + 1) (by first | assumption | (simp; done) | (simp; omega)))
  refine bodyPost_ret (v := .agg #[.bool (tg && (y == 0)), .int .u32 (b), .int .u32 (t), .int .u32 (x), .int .u16 (p), .int .u16 (y)]) (by simp [results, Tryd.results24, go_sem, c21]) rfl ⟨rfl, by repeat (first | (with_reducible exact b0 _) | (with_reducible refine bs ?_ (by first | (simp; done) | (simp; omega)) _) | (with_reducible refine ba ?_ _) | (with_reducible refine Below.drew ?_) | (with_reducible refine bt ?_ hb2))⟩

set_option maxHeartbeats 1000000 in
theorem randPerm_c (tg : Bool) (b t a p y : Int) (m : Int) (w : World) :
    Calls Tryd.prog 26 #[.agg #[.bool tg, .int .u32 b, .int .u32 t, .int .u32 a, .int .u16 p, .int .u16 y], .int .u16 m] w fun e w' =>
      e = .returned (.agg #[.bool (tg && (y == 0)), .int .u32 (b), .int .u32 (t), .int .u32 (a), .int .u16 (bits .and .u16 p m), .int .u16 (y)]) ∧ Below w.heap.size w w' := by
  go_enter Tryd.func26, Tryd.ntmps26
  go_wp2_with (go_at_call 42; refine (asks_c _ _ _ _ _ _ _ _).mono ?_; rintro e w2 ⟨rfl, hb2⟩; obtain ⟨c20, f20, z20⟩ := bc hb2 (n := w.heap.size) (by first | assumption | (simp; done) | (simp; omega)); obtain ⟨c21, f21, z21⟩ := bc hb2 (n := w.heap.size + 1) (by first | assumption | (simp; done) | (simp; omega)))
  refine bodyPost_ret (v := .agg #[.bool (tg && (y == 0)), .int .u32 (b), .int .u32 (t), .int .u32 (a), .int .u16 (bits .and .u16 p m), .int .u16 (y)]) (by simp [results, Tryd.results26, go_sem, c21]) rfl ⟨rfl, by repeat (first | (with_reducible exact b0 _) | (with_reducible refine bs ?_ (by first | (simp; done) | (simp; omega)) _) | (with_reducible refine ba ?_ _) | (with_reducible refine Below.drew ?_) | (with_reducible refine bt ?_ hb2))⟩

set_option maxHeartbeats 1000000 in
theorem rclear_c (tg : Bool) (b t a p y : Int) (w : World) :
    Calls Tryd.prog 27 #[.agg #[.bool tg, .int .u32 b, .int .u32 t, .int .u32 a, .int .u16 p, .int .u16 y]] w fun e w' =>
      e = .returned (.agg #[.bool (false), .int .u32 (b), .int .u32 (t), .int .u32 (a), .int .u16 (p), .int .u16 (y)]) ∧ Below w.heap.size w w' := by
  go_enter Tryd.func27, Tryd.ntmps27
  go_wp2_with (go_at_call 42; refine (asks_c _ _ _ _ _ _ _ _).mono ?_; rintro e w2 ⟨rfl, hb2⟩; obtain ⟨c20, f20, z20⟩ := bc hb2 (n := w.heap.size) (by first | assumption | (simp; done) | (simp; omega)); obtain ⟨c21, f21, z21⟩ := bc hb2 (n := w.heap.size + 1) (by first | assumption | (simp; done) | (simp; omega)))
  refine bodyPost_ret (v := .agg #[.bool (false), .int .u32 (b), .int .u32 (t), .int .u32 (a), .int .u16 (p), .int .u16 (y)]) (by simp [results, Tryd.results27, go_sem, c21]) rfl ⟨rfl, by repeat (first | (with_reducible exact b0 _) | (with_reducible refine bs ?_ (by first | (simp; done) | (simp; omega)) _) | (with_reducible refine ba ?_ _) | (with_reducible refine Below.drew ?_) | (with_reducible refine bt ?_ hb2))⟩

set_option maxHeartbeats 1000000 in
theorem rint_c (v : Int) (w : World) :
    Calls Tryd.prog 29 #[.int .u32 v] w fun e w' =>
      e = .returned (.agg #[.bool (false), .int .u32 (0), .int .u32 (0), .int .u32 (v), .int .u16 (0), .int .u16 (0)]) ∧ Below w.heap.size w w' := by
  go_enter Tryd.func29, Tryd.ntmps29
  go_wp2
  refine bodyPost_ret (v := .agg #[.bool (false), .int .u32 (0), .int .u32 (0), .int .u32 (v), .int .u16 (0), .int .u16 (0)]) (by simp [results, Tryd.results29, go_sem]) rfl ⟨rfl, by repeat (first | (with_reducible exact b0 _) | (with_reducible refine bs ?_ (by first | (simp; done) | (simp; omega)) _) | (with_reducible refine ba ?_ _) | (with_reducible refine Below.drew ?_))⟩

set_option maxHeartbeats 1000000 in
theorem rroot_c (v : Int) (w : World) :
    Calls Tryd.prog 31 #[.int .u32 v] w fun e w' =>
      e = .returned (.agg #[.bool (true), .int .u32 (0), .int .u32 (v), .int .u32 (0), .int .u16 (127), .int .u16 (0)]) ∧ Below w.heap.size w w' := by
  go_enter Tryd.func31, Tryd.ntmps31
  go_wp2
  refine bodyPost_ret (v := .agg #[.bool (true), .int .u32 (0), .int .u32 (v), .int .u32 (0), .int .u16 (127), .int .u16 (0)]) (by simp [results, Tryd.results31, go_sem]) rfl ⟨rfl, by repeat (first | (with_reducible exact b0 _) | (with_reducible refine bs ?_ (by first | (simp; done) | (simp; omega)) _) | (with_reducible refine ba ?_ _) | (with_reducible refine Below.drew ?_))⟩

set_option maxHeartbeats 1000000 in
theorem renter_c (tg : Bool) (b t a p y : Int) (w : World) :
    Calls Tryd.prog 28 #[.agg #[.bool tg, .int .u32 b, .int .u32 t, .int .u32 a, .int .u16 p, .int .u16 y]] w fun e w' =>
      e = .returned (.agg #[.bool (tg && ((y == 0) && (bits .and .u16 p 4 != 0))), .int .u32 (b), .int .u32 (t), .int .u32 (a), .int .u16 (p), .int .u16 (1)]) ∧ Below w.heap.size w w' := by
  rcases Bool.eq_false_or_eq_true (y == 0) with g | g
  · go_enter Tryd.func28, Tryd.ntmps28
    go_wp2_with (go_at_call 42; refine (asks_c _ _ _ _ _ _ _ _).mono ?_; rintro e w2 ⟨rfl, hb2⟩; obtain ⟨c20, f20, z20⟩ := bc hb2 (n := w.heap.size) (by first | assumption | (simp; done) | (simp; omega)); obtain ⟨c21, f21, z21⟩ := bc hb2 (n := w.heap.size + 1) (by first | assumption | (simp; done) | (simp; omega)))
    rw [g]
    refine bodyPost_ret (v := .agg #[.bool (tg && (true && (bits .and .u16 p 4 != 0))), .int .u32 (b), .int .u32 (t), .int .u32 (a), .int .u16 (p), .int .u16 (1)]) (by simp [results, Tryd.results28, go_sem, c21]) rfl ⟨rfl, by repeat (first | (with_reducible exact b0 _) | (with_reducible refine bs ?_ (by first | (simp; done) | (simp; omega)) _) | (with_reducible refine ba ?_ _) | (with_reducible refine Below.drew ?_) | (with_reducible refine bt ?_ hb2))⟩
  · go_enter Tryd.func28, Tryd.ntmps28
    go_wp2_with (go_at_call 42; refine (asks_c _ _ _ _ _ _ _ _).mono ?_; rintro e w2 ⟨rfl, hb2⟩; obtain ⟨c20, f20, z20⟩ := bc hb2 (n := w.heap.size) (by first | assumption | (simp; done) | (simp; omega)); obtain ⟨c21, f21, z21⟩ := bc hb2 (n := w.heap.size + 1) (by first | assumption | (simp; done) | (simp; omega)))
    rw [g]
    refine bodyPost_ret (v := .agg #[.bool (tg && (false && (bits .and .u16 p 4 != 0))), .int .u32 (b), .int .u32 (t), .int .u32 (a), .int .u16 (p), .int .u16 (1)]) (by simp [results, Tryd.results28, go_sem, c21]) rfl ⟨rfl, by repeat (first | (with_reducible exact b0 _) | (with_reducible refine bs ?_ (by first | (simp; done) | (simp; omega)) _) | (with_reducible refine ba ?_ _) | (with_reducible refine Below.drew ?_) | (with_reducible refine bt ?_ hb2))⟩

set_option maxHeartbeats 1000000 in
theorem rbounds_c (tg : Bool) (b t a p y : Int) (n : Int) (w : World) (ht : U32 t) (ha : U32 a) (hn : U32 n) :
    Calls Tryd.prog 25 #[.agg #[.bool tg, .int .u32 b, .int .u32 t, .int .u32 a, .int .u16 p, .int .u16 y], .int .u32 n] w fun e w' =>
      e = .returned (.agg #[.bool (tg && ((y == 0) && hasB b t a n)), .int .u32 (a), .int .u32 ((a + n) % 4294967296), .int .u32 (a), .int .u16 (p), .int .u16 (y)]) ∧ Below w.heap.size w w' := by
  rcases Bool.eq_false_or_eq_true (y == 0) with g | g
  · go_enter Tryd.func25, Tryd.ntmps25
    go_wp2_with (first | (go_at_call 34; refine (rhas_c _ _ _ _ _ _ _ _ _ ht ha hn).mono ?_; rintro e w3 ⟨rfl, hb3⟩; obtain ⟨c30, f30, z30⟩ := bc hb3 (n := w.heap.size) (by first | assumption | (simp; done) | (simp; omega)); obtain ⟨c31, f31, z31⟩ := bc hb3 (n := w.heap.size + 1) (by first | assumption | (simp; done) | (simp; omega))) | (go_at_call 42; refine (asks_c _ _ _ _ _ _ _ _).mono ?_; rintro e w2 ⟨rfl, hb2⟩; obtain ⟨c20, f20, z20⟩ := bc hb2 (n := w.heap.size) (by first | assumption | (simp; done) | (simp; omega)); obtain ⟨c21, f21, z21⟩ := bc hb2 (n := w.heap.size + 1) (by first | assumption | (simp; done) | (simp; omega))))
    rw [g]
    refine bodyPost_ret (v := .agg #[.bool (tg && (true && hasB b t a n)), .int .u32 (a), .int .u32 ((a + n) % 4294967296), .int .u32 (a), .int .u16 (p), .int .u16 (y)]) (by simp [results, Tryd.results25, go_sem, c21, c31]) rfl ⟨rfl, by repeat (first | (with_reducible exact b0 _) | (with_reducible refine bs ?_ (by first | (simp; done) | (simp; omega)) _) | (with_reducible refine ba ?_ _) | (with_reducible refine Below.drew ?_) | (with_reducible refine bt ?_ hb2) | (with_reducible refine bt ?_ hb3))⟩
  · go_enter Tryd.func25, Tryd.ntmps25
    go_wp2_with (first | (go_at_call 34; refine (rhas_c _ _ _ _ _ _ _ _ _ ht ha hn).mono ?_; rintro e w3 ⟨rfl, hb3⟩; obtain ⟨c30, f30, z30⟩ := bc hb3 (n := w.heap.size) (by first | assumption | (simp; done) | (simp; omega)); obtain ⟨c31, f31, z31⟩ := bc hb3 (n := w.heap.size + 1) (by first | assumption | (simp; done) | (simp; omega))) | (go_at_call 42; refine (asks_c _ _ _ _ _ _ _ _).mono ?_; rintro e w2 ⟨rfl, hb2⟩; obtain ⟨c20, f20, z20⟩ := bc hb2 (n := w.heap.size) (by first | assumption | (simp; done) | (simp; omega)); obtain ⟨c21, f21, z21⟩ := bc hb2 (n := w.heap.size + 1) (by first | assumption | (simp; done) | (simp; omega))))
    rw [g]
    refine bodyPost_ret (v := .agg #[.bool (tg && (false && hasB b t a n)), .int .u32 (a), .int .u32 ((a + n) % 4294967296), .int .u32 (a), .int .u16 (p), .int .u16 (y)]) (by simp [results, Tryd.results25, go_sem, c21]) rfl ⟨rfl, by repeat (first | (with_reducible exact b0 _) | (with_reducible refine bs ?_ (by first | (simp; done) | (simp; omega)) _) | (with_reducible refine ba ?_ _) | (with_reducible refine Below.drew ?_) | (with_reducible refine bt ?_ hb2))⟩

set_option maxHeartbeats 1000000 in
theorem key_c (tg : Bool) (b t a p y : Int) (m : Int) (w : World) (ht : U32 t) (ha : U32 a) :
    Calls Tryd.prog 43 #[.agg #[.bool tg, .int .u32 b, .int .u32 t, .int .u32 a, .int .u16 p, .int .u16 y], .int .u16 m] w fun e w' =>
      e = .returned (.bool (tg && may2B b t a p y m)) ∧ Below w.heap.size w w' := by
  cases tg
  · go_enter Tryd.func43, Tryd.ntmps43
    go_wp2
    go_ret
    exact ⟨rfl, ba (b0 _) _⟩
  · rcases Bool.eq_false_or_eq_true (y == 0) with g | g
    · rcases Bool.eq_false_or_eq_true (bits .and .u16 p m == m) with h | h
      · go_enter Tryd.func43, Tryd.ntmps43
        go_wp2_with (go_at_call 34; refine (rhas_c _ _ _ _ _ _ _ _ _ ht ha ⟨by omega, by omega⟩).mono ?_; rintro e w1 ⟨rfl, hb1⟩; obtain ⟨c10, f10, z10⟩ := bc hb1 (n := w.heap.size) (by first | assumption | (simp; done) | (simp; omega)))
        go_ret
        exact ⟨by simp only [may2B, permB, g, h, Bool.true_and, Bool.and_true]; rfl, bt (ba (b0 _) _) hb1⟩
      · go_enter Tryd.func43, Tryd.ntmps43
        go_wp2
        go_ret
        exact ⟨by simp only [may2B, permB, g, h, Bool.true_and, Bool.and_false, Bool.false_and]; rfl, ba (b0 _) _⟩
    · go_enter Tryd.func43, Tryd.ntmps43
      go_wp2
      go_ret
      exact ⟨by simp only [may2B, g, Bool.true_and, Bool.and_false]; rfl, ba (b0 _) _⟩

set_option maxHeartbeats 1000000 in
theorem rseal_yes (tg : Bool) (b t a p y : Int) (ktg : Bool) (kb kt ka kp ky : Int) (w : World) (hkt : U32 kt) (hka : U32 ka) (h : sealB y ktg kb kt ka kp ky = true) :
    Calls Tryd.prog 32 #[.agg #[.bool tg, .int .u32 b, .int .u32 t, .int .u32 a, .int .u16 p, .int .u16 y], .agg #[.bool ktg, .int .u32 kb, .int .u32 kt, .int .u32 ka, .int .u16 kp, .int .u16 ky]] w fun e w' =>
      e = .returned (.agg #[.bool (tg), .int .u32 (b), .int .u32 (t), .int .u32 (a), .int .u16 (p), .int .u16 (ka)]) ∧ Below w.heap.size w w' := by
  simp only [sealB, Bool.and_eq_true, decide_eq_true_eq] at h
  obtain ⟨⟨⟨⟨g1, rfl⟩, g3⟩, g4⟩, g5⟩ := h
  have g1' : (y != 0) = false := by simpa using g1
  go_enter Tryd.func32, Tryd.ntmps32
  go_wp2_with (first | (go_at_call 43; (with_reducible refine (key_c _ _ _ _ _ _ _ _ hkt hka).mono ?_); rintro e w3 ⟨rfl, hb3⟩; obtain ⟨c30, c31, c32, f30, f31, f32, z30, z31, z32⟩ := bc3 hb3) | (go_at_call 42; refine (asks_c _ _ _ _ _ _ _ _).mono ?_; rintro e w2 ⟨rfl, hb2⟩; obtain ⟨c20, f20, z20⟩ := bc hb2 (n := w.heap.size) (by first | assumption | (simp; done) | (simp; omega)); obtain ⟨c21, f21, z21⟩ := bc hb2 (n := w.heap.size + 1) (by first | assumption | (simp; done) | (simp; omega)); obtain ⟨c22, f22, z22⟩ := bc hb2 (n := w.heap.size + 2) (by first | assumption | (simp; done) | (simp; omega))))
  refine bodyPost_ret (v := .agg #[.bool (tg), .int .u32 (b), .int .u32 (t), .int .u32 (a), .int .u16 (p), .int .u16 (ka)]) (by simp [results, Tryd.results32, go_sem, c30, c32]) rfl ⟨rfl, by repeat (first | (with_reducible exact b0 _) | (with_reducible refine bs ?_ (by first | (simp; done) | (simp; omega)) _) | (with_reducible refine ba ?_ _) | (with_reducible refine Below.drew ?_) | (with_reducible refine bt ?_ hb3))⟩

set_option maxHeartbeats 1000000 in
theorem rseal_no (tg : Bool) (b t a p y : Int) (ktg : Bool) (kb kt ka kp ky : Int) (w : World) (hkt : U32 kt) (hka : U32 ka) (h : sealB y ktg kb kt ka kp ky = false) :
    Calls Tryd.prog 32 #[.agg #[.bool tg, .int .u32 b, .int .u32 t, .int .u32 a, .int .u16 p, .int .u16 y], .agg #[.bool ktg, .int .u32 kb, .int .u32 kt, .int .u32 ka, .int .u16 kp, .int .u16 ky]] w fun e w' =>
      e = .returned (.agg #[.bool (false), .int .u32 (b), .int .u32 (t), .int .u32 (a), .int .u16 (p), .int .u16 (y)]) ∧ Below w.heap.size w w' := by
  rcases Bool.eq_false_or_eq_true (y == 0) with g1 | g1
  · have g1' : (y != 0) = false := by simpa using g1
    cases ktg
    · go_enter Tryd.func32, Tryd.ntmps32
      go_wp2_with (first | (go_at_call 43; (with_reducible refine (key_c _ _ _ _ _ _ _ _ hkt hka).mono ?_); rintro e w3 ⟨rfl, hb3⟩; obtain ⟨c30, c31, c32, f30, f31, f32, z30, z31, z32⟩ := bc3 hb3) | (go_at_call 42; refine (asks_c _ _ _ _ _ _ _ _).mono ?_; rintro e w2 ⟨rfl, hb2⟩; obtain ⟨c20, f20, z20⟩ := bc hb2 (n := w.heap.size) (by first | assumption | (simp; done) | (simp; omega)); obtain ⟨c21, f21, z21⟩ := bc hb2 (n := w.heap.size + 1) (by first | assumption | (simp; done) | (simp; omega)); obtain ⟨c22, f22, z22⟩ := bc hb2 (n := w.heap.size + 2) (by first | assumption | (simp; done) | (simp; omega))))
      refine bodyPost_ret (v := .agg #[.bool (tg && false), .int .u32 (b), .int .u32 (t), .int .u32 (a), .int .u16 (p), .int .u16 (y)]) (by simp [results, Tryd.results32, go_sem, c22, c32]) rfl ⟨by rw [Bool.and_false], by repeat (first | (with_reducible exact b0 _) | (with_reducible refine bs ?_ (by first | (simp; done) | (simp; omega)) _) | (with_reducible refine ba ?_ _) | (with_reducible refine Below.drew ?_) | (with_reducible refine bt ?_ hb2) | (with_reducible refine bt ?_ hb3))⟩
    · rcases Bool.eq_false_or_eq_true (may2B kb kt ka kp ky 32) with g3 | g3
      · by_cases g4 : 2 ≤ ka
        · by_cases g5 : ka < 1024
          · simp [sealB, g1, g3, g4, g5] at h
          · go_enter Tryd.func32, Tryd.ntmps32
            go_wp2_with (first | (go_at_call 43; (with_reducible refine (key_c _ _ _ _ _ _ _ _ hkt hka).mono ?_); rintro e w3 ⟨rfl, hb3⟩; obtain ⟨c30, c31, c32, f30, f31, f32, z30, z31, z32⟩ := bc3 hb3) | (go_at_call 42; refine (asks_c _ _ _ _ _ _ _ _).mono ?_; rintro e w2 ⟨rfl, hb2⟩; obtain ⟨c20, f20, z20⟩ := bc hb2 (n := w.heap.size) (by first | assumption | (simp; done) | (simp; omega)); obtain ⟨c21, f21, z21⟩ := bc hb2 (n := w.heap.size + 1) (by first | assumption | (simp; done) | (simp; omega)); obtain ⟨c22, f22, z22⟩ := bc hb2 (n := w.heap.size + 2) (by first | assumption | (simp; done) | (simp; omega))))
            refine bodyPost_ret (v := .agg #[.bool (tg && false), .int .u32 (b), .int .u32 (t), .int .u32 (a), .int .u16 (p), .int .u16 (y)]) (by simp [results, Tryd.results32, go_sem, c22, c32]) rfl ⟨by rw [Bool.and_false], by repeat (first | (with_reducible exact b0 _) | (with_reducible refine bs ?_ (by first | (simp; done) | (simp; omega)) _) | (with_reducible refine ba ?_ _) | (with_reducible refine Below.drew ?_) | (with_reducible refine bt ?_ hb2) | (with_reducible refine bt ?_ hb3))⟩
        · go_enter Tryd.func32, Tryd.ntmps32
          go_wp2_with (first | (go_at_call 43; (with_reducible refine (key_c _ _ _ _ _ _ _ _ hkt hka).mono ?_); rintro e w3 ⟨rfl, hb3⟩; obtain ⟨c30, c31, c32, f30, f31, f32, z30, z31, z32⟩ := bc3 hb3) | (go_at_call 42; refine (asks_c _ _ _ _ _ _ _ _).mono ?_; rintro e w2 ⟨rfl, hb2⟩; obtain ⟨c20, f20, z20⟩ := bc hb2 (n := w.heap.size) (by first | assumption | (simp; done) | (simp; omega)); obtain ⟨c21, f21, z21⟩ := bc hb2 (n := w.heap.size + 1) (by first | assumption | (simp; done) | (simp; omega)); obtain ⟨c22, f22, z22⟩ := bc hb2 (n := w.heap.size + 2) (by first | assumption | (simp; done) | (simp; omega))))
          refine bodyPost_ret (v := .agg #[.bool (tg && false), .int .u32 (b), .int .u32 (t), .int .u32 (a), .int .u16 (p), .int .u16 (y)]) (by simp [results, Tryd.results32, go_sem, c22, c32]) rfl ⟨by rw [Bool.and_false], by repeat (first | (with_reducible exact b0 _) | (with_reducible refine bs ?_ (by first | (simp; done) | (simp; omega)) _) | (with_reducible refine ba ?_ _) | (with_reducible refine Below.drew ?_) | (with_reducible refine bt ?_ hb2) | (with_reducible refine bt ?_ hb3))⟩
      · go_enter Tryd.func32, Tryd.ntmps32
        go_wp2_with (first | (go_at_call 43; (with_reducible refine (key_c _ _ _ _ _ _ _ _ hkt hka).mono ?_); rintro e w3 ⟨rfl, hb3⟩; obtain ⟨c30, c31, c32, f30, f31, f32, z30, z31, z32⟩ := bc3 hb3) | (go_at_call 42; refine (asks_c _ _ _ _ _ _ _ _).mono ?_; rintro e w2 ⟨rfl, hb2⟩; obtain ⟨c20, f20, z20⟩ := bc hb2 (n := w.heap.size) (by first | assumption | (simp; done) | (simp; omega)); obtain ⟨c21, f21, z21⟩ := bc hb2 (n := w.heap.size + 1) (by first | assumption | (simp; done) | (simp; omega)); obtain ⟨c22, f22, z22⟩ := bc hb2 (n := w.heap.size + 2) (by first | assumption | (simp; done) | (simp; omega))))
        refine bodyPost_ret (v := .agg #[.bool (tg && false), .int .u32 (b), .int .u32 (t), .int .u32 (a), .int .u16 (p), .int .u16 (y)]) (by simp [results, Tryd.results32, go_sem, c22, c32]) rfl ⟨by rw [Bool.and_false], by repeat (first | (with_reducible exact b0 _) | (with_reducible refine bs ?_ (by first | (simp; done) | (simp; omega)) _) | (with_reducible refine ba ?_ _) | (with_reducible refine Below.drew ?_) | (with_reducible refine bt ?_ hb2) | (with_reducible refine bt ?_ hb3))⟩
  · have g1' : (y != 0) = true := by simpa using g1
    go_enter Tryd.func32, Tryd.ntmps32
    go_wp2_with (first | (go_at_call 43; (with_reducible refine (key_c _ _ _ _ _ _ _ _ hkt hka).mono ?_); rintro e w3 ⟨rfl, hb3⟩; obtain ⟨c30, c31, c32, f30, f31, f32, z30, z31, z32⟩ := bc3 hb3) | (go_at_call 42; refine (asks_c _ _ _ _ _ _ _ _).mono ?_; rintro e w2 ⟨rfl, hb2⟩; obtain ⟨c20, f20, z20⟩ := bc hb2 (n := w.heap.size) (by first | assumption | (simp; done) | (simp; omega)); obtain ⟨c21, f21, z21⟩ := bc hb2 (n := w.heap.size + 1) (by first | assumption | (simp; done) | (simp; omega)); obtain ⟨c22, f22, z22⟩ := bc hb2 (n := w.heap.size + 2) (by first | assumption | (simp; done) | (simp; omega))))
    refine bodyPost_ret (v := .agg #[.bool (tg && false), .int .u32 (b), .int .u32 (t), .int .u32 (a), .int .u16 (p), .int .u16 (y)]) (by simp [results, Tryd.results32, go_sem, c22]) rfl ⟨by rw [Bool.and_false], by repeat (first | (with_reducible exact b0 _) | (with_reducible refine bs ?_ (by first | (simp; done) | (simp; omega)) _) | (with_reducible refine ba ?_ _) | (with_reducible refine Below.drew ?_) | (with_reducible refine bt ?_ hb2))⟩

set_option maxHeartbeats 1000000 in
theorem runseal_yes (tg : Bool) (b t a p y : Int) (ktg : Bool) (kb kt ka kp ky : Int) (w : World) (hy : U16 y) (hkt : U32 kt) (hka : U32 ka) (h : unsealB y ktg kb kt ka kp ky = true) :
    Calls Tryd.prog 33 #[.agg #[.bool tg, .int .u32 b, .int .u32 t, .int .u32 a, .int .u16 p, .int .u16 y], .agg #[.bool ktg, .int .u32 kb, .int .u32 kt, .int .u32 ka, .int .u16 kp, .int .u16 ky]] w fun e w' =>
      e = .returned (.agg #[.bool (tg), .int .u32 (b), .int .u32 (t), .int .u32 (a), .int .u16 (p), .int .u16 (0)]) ∧ Below w.heap.size w w' := by
  simp only [unsealB, Bool.and_eq_true, decide_eq_true_eq] at h
  obtain ⟨⟨⟨g1, rfl⟩, g3⟩, g4⟩ := h
  have g4' : (ka != y) = false := by simpa using g4
  obtain ⟨y0, y1⟩ := hy
  go_enter Tryd.func33, Tryd.ntmps33
  go_wp2_with (first | (go_at_call 43; (with_reducible refine (key_c _ _ _ _ _ _ _ _ hkt hka).mono ?_); rintro e w3 ⟨rfl, hb3⟩; obtain ⟨c30, c31, c32, f30, f31, f32, z30, z31, z32⟩ := bc3 hb3) | (go_at_call 42; refine (asks_c _ _ _ _ _ _ _ _).mono ?_; rintro e w2 ⟨rfl, hb2⟩; obtain ⟨c20, f20, z20⟩ := bc hb2 (n := w.heap.size) (by first | assumption | (simp; done) | (simp; omega)); obtain ⟨c21, f21, z21⟩ := bc hb2 (n := w.heap.size + 1) (by first | assumption | (simp; done) | (simp; omega)); obtain ⟨c22, f22, z22⟩ := bc hb2 (n := w.heap.size + 2) (by first | assumption | (simp; done) | (simp; omega))))
  refine bodyPost_ret (v := .agg #[.bool (tg), .int .u32 (b), .int .u32 (t), .int .u32 (a), .int .u16 (p), .int .u16 (0)]) (by simp [results, Tryd.results33, go_sem, c30, c32]) rfl ⟨rfl, by repeat (first | (with_reducible exact b0 _) | (with_reducible refine bs ?_ (by first | (simp; done) | (simp; omega)) _) | (with_reducible refine ba ?_ _) | (with_reducible refine Below.drew ?_) | (with_reducible refine bt ?_ hb3))⟩

set_option maxHeartbeats 1000000 in
theorem runseal_no (tg : Bool) (b t a p y : Int) (ktg : Bool) (kb kt ka kp ky : Int) (w : World) (hy : U16 y) (hkt : U32 kt) (hka : U32 ka) (h : unsealB y ktg kb kt ka kp ky = false) :
    Calls Tryd.prog 33 #[.agg #[.bool tg, .int .u32 b, .int .u32 t, .int .u32 a, .int .u16 p, .int .u16 y], .agg #[.bool ktg, .int .u32 kb, .int .u32 kt, .int .u32 ka, .int .u16 kp, .int .u16 ky]] w fun e w' =>
      e = .returned (.agg #[.bool (false), .int .u32 (b), .int .u32 (t), .int .u32 (a), .int .u16 (p), .int .u16 (y)]) ∧ Below w.heap.size w w' := by
  obtain ⟨y0, y1⟩ := hy
  by_cases g1 : 2 ≤ y
  · cases ktg
    · go_enter Tryd.func33, Tryd.ntmps33
      go_wp2_with (first | (go_at_call 43; (with_reducible refine (key_c _ _ _ _ _ _ _ _ hkt hka).mono ?_); rintro e w3 ⟨rfl, hb3⟩; obtain ⟨c30, c31, c32, f30, f31, f32, z30, z31, z32⟩ := bc3 hb3) | (go_at_call 42; refine (asks_c _ _ _ _ _ _ _ _).mono ?_; rintro e w2 ⟨rfl, hb2⟩; obtain ⟨c20, f20, z20⟩ := bc hb2 (n := w.heap.size) (by first | assumption | (simp; done) | (simp; omega)); obtain ⟨c21, f21, z21⟩ := bc hb2 (n := w.heap.size + 1) (by first | assumption | (simp; done) | (simp; omega)); obtain ⟨c22, f22, z22⟩ := bc hb2 (n := w.heap.size + 2) (by first | assumption | (simp; done) | (simp; omega))))
      refine bodyPost_ret (v := .agg #[.bool (tg && false), .int .u32 (b), .int .u32 (t), .int .u32 (a), .int .u16 (p), .int .u16 (y)]) (by simp [results, Tryd.results33, go_sem, c22, c32]) rfl ⟨by rw [Bool.and_false], by repeat (first | (with_reducible exact b0 _) | (with_reducible refine bs ?_ (by first | (simp; done) | (simp; omega)) _) | (with_reducible refine ba ?_ _) | (with_reducible refine Below.drew ?_) | (with_reducible refine bt ?_ hb2) | (with_reducible refine bt ?_ hb3))⟩
    · rcases Bool.eq_false_or_eq_true (may2B kb kt ka kp ky 64) with g3 | g3
      · rcases Bool.eq_false_or_eq_true (ka == y) with g4 | g4
        · simp [unsealB, g1, g3, g4] at h
        · have g4' : (ka != y) = true := by simpa using g4
          go_enter Tryd.func33, Tryd.ntmps33
          go_wp2_with (first | (go_at_call 43; (with_reducible refine (key_c _ _ _ _ _ _ _ _ hkt hka).mono ?_); rintro e w3 ⟨rfl, hb3⟩; obtain ⟨c30, c31, c32, f30, f31, f32, z30, z31, z32⟩ := bc3 hb3) | (go_at_call 42; refine (asks_c _ _ _ _ _ _ _ _).mono ?_; rintro e w2 ⟨rfl, hb2⟩; obtain ⟨c20, f20, z20⟩ := bc hb2 (n := w.heap.size) (by first | assumption | (simp; done) | (simp; omega)); obtain ⟨c21, f21, z21⟩ := bc hb2 (n := w.heap.size + 1) (by first | assumption | (simp; done) | (simp; omega)); obtain ⟨c22, f22, z22⟩ := bc hb2 (n := w.heap.size + 2) (by first | assumption | (simp; done) | (simp; omega))))
          refine bodyPost_ret (v := .agg #[.bool (tg && false), .int .u32 (b), .int .u32 (t), .int .u32 (a), .int .u16 (p), .int .u16 (y)]) (by simp [results, Tryd.results33, go_sem, c22, c32]) rfl ⟨by rw [Bool.and_false], by repeat (first | (with_reducible exact b0 _) | (with_reducible refine bs ?_ (by first | (simp; done) | (simp; omega)) _) | (with_reducible refine ba ?_ _) | (with_reducible refine Below.drew ?_) | (with_reducible refine bt ?_ hb2) | (with_reducible refine bt ?_ hb3))⟩
      · go_enter Tryd.func33, Tryd.ntmps33
        go_wp2_with (first | (go_at_call 43; (with_reducible refine (key_c _ _ _ _ _ _ _ _ hkt hka).mono ?_); rintro e w3 ⟨rfl, hb3⟩; obtain ⟨c30, c31, c32, f30, f31, f32, z30, z31, z32⟩ := bc3 hb3) | (go_at_call 42; refine (asks_c _ _ _ _ _ _ _ _).mono ?_; rintro e w2 ⟨rfl, hb2⟩; obtain ⟨c20, f20, z20⟩ := bc hb2 (n := w.heap.size) (by first | assumption | (simp; done) | (simp; omega)); obtain ⟨c21, f21, z21⟩ := bc hb2 (n := w.heap.size + 1) (by first | assumption | (simp; done) | (simp; omega)); obtain ⟨c22, f22, z22⟩ := bc hb2 (n := w.heap.size + 2) (by first | assumption | (simp; done) | (simp; omega))))
        refine bodyPost_ret (v := .agg #[.bool (tg && false), .int .u32 (b), .int .u32 (t), .int .u32 (a), .int .u16 (p), .int .u16 (y)]) (by simp [results, Tryd.results33, go_sem, c22, c32]) rfl ⟨by rw [Bool.and_false], by repeat (first | (with_reducible exact b0 _) | (with_reducible refine bs ?_ (by first | (simp; done) | (simp; omega)) _) | (with_reducible refine ba ?_ _) | (with_reducible refine Below.drew ?_) | (with_reducible refine bt ?_ hb2) | (with_reducible refine bt ?_ hb3))⟩
  · go_enter Tryd.func33, Tryd.ntmps33
    go_wp2_with (first | (go_at_call 43; (with_reducible refine (key_c _ _ _ _ _ _ _ _ hkt hka).mono ?_); rintro e w3 ⟨rfl, hb3⟩; obtain ⟨c30, c31, c32, f30, f31, f32, z30, z31, z32⟩ := bc3 hb3) | (go_at_call 42; refine (asks_c _ _ _ _ _ _ _ _).mono ?_; rintro e w2 ⟨rfl, hb2⟩; obtain ⟨c20, f20, z20⟩ := bc hb2 (n := w.heap.size) (by first | assumption | (simp; done) | (simp; omega)); obtain ⟨c21, f21, z21⟩ := bc hb2 (n := w.heap.size + 1) (by first | assumption | (simp; done) | (simp; omega)); obtain ⟨c22, f22, z22⟩ := bc hb2 (n := w.heap.size + 2) (by first | assumption | (simp; done) | (simp; omega))))
    refine bodyPost_ret (v := .agg #[.bool (tg && false), .int .u32 (b), .int .u32 (t), .int .u32 (a), .int .u16 (p), .int .u16 (y)]) (by simp [results, Tryd.results33, go_sem, c22]) rfl ⟨by rw [Bool.and_false], by repeat (first | (with_reducible exact b0 _) | (with_reducible refine bs ?_ (by first | (simp; done) | (simp; omega)) _) | (with_reducible refine ba ?_ _) | (with_reducible refine Below.drew ?_) | (with_reducible refine bt ?_ hb2))⟩

end Go.Proofs.YtfhmkmbdfeoegaaDoor
