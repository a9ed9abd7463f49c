/- Sealed by a key, one is as it was once opened by that key, and not before: the law answers true and leaves its arguments alone. No condition beyond the row's own. -/
import Derived.Test.YtfhmkmbdfeoegaaDoorCards
import Derived.Test.YtfhmkmbdfeoegaaDoorTie
import Derived.Test.YtfhmkmbdfeoegaaDoorM
import Derived.Test.YtfhmkmbdfeoegaaDoorS
import Derived.Deep.DeepHandedRow
namespace Go.Proofs.YtfhmkmbdfeoegaaDoor.lawCapClosed
open Go.ChangeShapes Go.WideShapes Go.ChangeAt Go.RowKit
set_option linter.unusedVariables false
set_option linter.unusedSimpArgs false

theorem perm64 {p : Int} (hp : U16 p) (h : (bits .and .u16 p 64 == 0) = false) : permB p 64 = true := by
  unfold permB
  rw [and16 hp ⟨by omega, by omega⟩] at h ⊢
  have h0 : p.toNat &&& 64 = 0 ∨ p.toNat &&& 64 = 64 := by
    have h1 : p.toNat &&& 64 ≤ 64 := Nat.and_le_right
    have h2 := Nat.and_mod_two_pow (a := p.toNat) (b := 64) (n := 7)
    rw [Nat.mod_eq_of_lt (show p.toNat &&& 64 < 2 ^ 7 by omega)] at h2
    rw [h2]
    have h3 : p.toNat % 2 ^ 7 < 128 := Nat.mod_lt _ (by decide)
    generalize p.toNat % 2 ^ 7 = m at h3
    have hall : ∀ m : Fin 128, m.val &&& 64 % 2 ^ 7 = 0 ∨ m.val &&& 64 % 2 ^ 7 = 64 := by decide
    exact hall ⟨m, h3⟩
  rw [show (64 : Int).toNat = 64 from rfl] at h ⊢
  rcases h0 with h0 | h0
  · rw [h0] at h; exact absurd h (by decide)
  · rw [h0]; decide
theorem unseal_own {kb kt ka kp ky : Int} (gh : hasB kb kt ka 1 = true) (gy : (ky == 0) = true) (k2 : 2 ≤ ka) (hp : U16 kp) (h : (bits .and .u16 kp 64 == 0) = false) : unsealB ka true kb kt ka kp ky = true := by
  unfold unsealB may2B
  rw [gh, gy, perm64 hp h, decide_eq_true k2, beq_self_eq_true]
  rfl
theorem unseal_v (tg : Bool) (b t a p y : Int) (ktg : Bool) (kb kt ka kp ky : Int) (w : World) (hy : U16 y) (hkt : U32 kt) (hka : U32 ka) (h : unsealB y ktg kb kt ka kp ky = true) :
    Calls Tryd.prog 20 #[.agg #[.bool tg, .int .u32 b, .int .u32 t, .int .u32 a, .int .u16 p, .int .u16 y], .agg #[.bool ktg, .int .u32 kb, .int .u32 kt, .int .u32 ka, .int .u16 kp, .int .u16 ky]] w fun e w' =>
      e = .returned (.agg #[.bool tg, .int .u32 b, .int .u32 t, .int .u32 a, .int .u16 p, .int .u16 0]) ∧ Below w.heap.size w w' :=
  unseal_yes tg b t a p y ktg kb kt ka kp ky w hy hkt hka h

set_option maxHeartbeats 4000000 in
theorem walk (ctg : Bool) (cb ct ca cp cy : Int) (ktg : Bool) (kb kt ka kp ky : Int) (ztg : Bool) (zb zt za zp zy : Int) (x : Int) (w : World) (htab : Tab w) (hcb : U32 cb) (hct : U32 ct) (hca : U32 ca) (hcp : U16 cp) (hcy : U16 cy) (hkb : U32 kb) (hkt : U32 kt) (hka : U32 ka) (hkp : U16 kp) (hky : U16 ky) (hzb : U32 zb) (hzt : U32 zt) (hza : U32 za) (hzp : U16 zp) (hzy : U16 zy) (hx : U32 x) :
    Calls Tryd.prog 10 #[.agg #[.bool ctg, .int .u32 cb, .int .u32 ct, .int .u32 ca, .int .u16 cp, .int .u16 cy], .agg #[.bool ktg, .int .u32 kb, .int .u32 kt, .int .u32 ka, .int .u16 kp, .int .u16 ky], .agg #[.bool ztg, .int .u32 zb, .int .u32 zt, .int .u32 za, .int .u16 zp, .int .u16 zy], .int .u32 x] w fun e w' => e = .returned (.bool true) ∧ Below w.heap.size w w' := by
  have x0 := hx.1
  have x1 := hx.2
  rcases Bool.eq_false_or_eq_true (sealB cy ktg kb kt ka kp ky) with hs | hs
  · cases ctg
    · go_enter Tryd.func10, Tryd.ntmps10
      go_wp2_with fail
      ((with_reducible refine (known_c _ (htab.later (ba (ba (ba (b0 w) (.cells (#[.bool false, .int .u32 cb, .int .u32 ct, .int .u32 ca, .int .u16 cp, .int .u16 cy] : Array Value) 25)) (.cells (#[.bool ktg, .int .u32 kb, .int .u32 kt, .int .u32 ka, .int .u16 kp, .int .u16 ky] : Array Value) 25)) (.cells (#[.bool ztg, .int .u32 zb, .int .u32 zt, .int .u32 za, .int .u16 zp, .int .u16 zy] : Array Value) 25)))).mono ?_); rintro e w1 ⟨rfl, hb1⟩)
      have d1 := bt (ba (ba (ba (b0 w) (.cells (#[.bool false, .int .u32 cb, .int .u32 ct, .int .u32 ca, .int .u16 cp, .int .u16 cy] : Array Value) 25)) (.cells (#[.bool ktg, .int .u32 kb, .int .u32 kt, .int .u32 ka, .int .u16 kp, .int .u16 ky] : Array Value) 25)) (.cells (#[.bool ztg, .int .u32 zb, .int .u32 zt, .int .u32 za, .int .u16 zp, .int .u16 zy] : Array Value) 25)) hb1
      have Xc1 := ((Box.alloc ((Box.alloc (Box.new_at w (#[.bool false, .int .u32 cb, .int .u32 ct, .int .u32 ca, .int .u16 cp, .int .u16 cy] : Array Value) 25 (w.heap.size) (by first | rfl | (simp; done) | (simp; omega))) (.cells (#[.bool ktg, .int .u32 kb, .int .u32 kt, .int .u32 ka, .int .u16 kp, .int .u16 ky] : Array Value) 25))) (.cells (#[.bool ztg, .int .u32 zb, .int .u32 zt, .int .u32 za, .int .u16 zp, .int .u16 zy] : Array Value) 25))).later hb1
      have kc1 := Xc1.2
      have lc1 := Xc1.1
      have Xk1 := ((Box.alloc (Box.new_at (w.alloc (.cells #[.bool false, .int .u32 cb, .int .u32 ct, .int .u32 ca, .int .u16 cp, .int .u16 cy] 25)) (#[.bool ktg, .int .u32 kb, .int .u32 kt, .int .u32 ka, .int .u16 kp, .int .u16 ky] : Array Value) 25 (w.heap.size + 1) (by first | rfl | (simp; done) | (simp; omega))) (.cells (#[.bool ztg, .int .u32 zb, .int .u32 zt, .int .u32 za, .int .u16 zp, .int .u16 zy] : Array Value) 25))).later hb1
      have kk1 := Xk1.2
      have lk1 := Xk1.1
      have Xz1 := (Box.new_at ((w.alloc (.cells #[.bool false, .int .u32 cb, .int .u32 ct, .int .u32 ca, .int .u16 cp, .int .u16 cy] 25)).alloc (.cells #[.bool ktg, .int .u32 kb, .int .u32 kt, .int .u32 ka, .int .u16 kp, .int .u16 ky] 25)) (#[.bool ztg, .int .u32 zb, .int .u32 zt, .int .u32 za, .int .u16 zp, .int .u16 zy] : Array Value) 25 (w.heap.size + 2) (by first | rfl | (simp; done) | (simp; omega))).later hb1
      have kz1 := Xz1.2
      have lz1 := Xz1.1
      go_wp2_with fail
      ((with_reducible refine (seal_yes false cb ct ca cp cy ktg kb kt ka kp ky _ hkt hka hs).mono ?_); rintro e w2 ⟨rfl, hb2⟩)
      have d2 := bt d1 hb2
      have Xc2 := Xc1.later hb2
      have kc2 := Xc2.2
      have lc2 := Xc2.1
      have Xk2 := Xk1.later hb2
      have kk2 := Xk2.2
      have lk2 := Xk2.1
      have Xz2 := Xz1.later hb2
      have kz2 := Xz2.2
      have lz2 := Xz2.1
      go_wp2
      go_ret
      exact ⟨rfl, (ba d2 (.cells (#[.bool false, .int .u32 cb, .int .u32 ct, .int .u32 ca, .int .u16 cp, .int .u16 ka] : Array Value) 25))⟩
    · have hs' := hs
      simp only [sealB, may2B, Bool.and_eq_true, decide_eq_true_eq] at hs'
      obtain ⟨⟨⟨⟨g1, rfl⟩, ⟨⟨gh, gp⟩, gy⟩⟩, k2⟩, k3⟩ := hs'
      obtain rfl : cy = 0 := by simpa using g1
      have hk16 : U16 ka := ⟨by omega, by omega⟩
      have gz : (ka == 0) = false := by simp; omega
      have ez : ((0 : Int) == 0) = true := rfl
      have eS : sealB ka ztg zb zt za zp zy = false := by unfold sealB; rw [gz]; simp
      clear g1
      have F0 := fld0
      rcases Bool.eq_false_or_eq_true (unsealB ka ztg zb zt za zp zy) with hu | hu
      · have ea : (za == ka) = true := by
          simp only [unsealB, Bool.and_eq_true] at hu
          exact hu.2
        rcases Bool.eq_false_or_eq_true (bits .and .u16 kp 64 == 0) with h64 | h64
        · go_enter Tryd.func10, Tryd.ntmps10
          go_wp2_with fail
          ((with_reducible refine (known_c _ (htab.later (ba (ba (ba (b0 w) (.cells (#[.bool true, .int .u32 cb, .int .u32 ct, .int .u32 ca, .int .u16 cp, .int .u16 0] : Array Value) 25)) (.cells (#[.bool true, .int .u32 kb, .int .u32 kt, .int .u32 ka, .int .u16 kp, .int .u16 ky] : Array Value) 25)) (.cells (#[.bool ztg, .int .u32 zb, .int .u32 zt, .int .u32 za, .int .u16 zp, .int .u16 zy] : Array Value) 25)))).mono ?_); rintro e w1 ⟨rfl, hb1⟩)
          have d1 := bt (ba (ba (ba (b0 w) (.cells (#[.bool true, .int .u32 cb, .int .u32 ct, .int .u32 ca, .int .u16 cp, .int .u16 0] : Array Value) 25)) (.cells (#[.bool true, .int .u32 kb, .int .u32 kt, .int .u32 ka, .int .u16 kp, .int .u16 ky] : Array Value) 25)) (.cells (#[.bool ztg, .int .u32 zb, .int .u32 zt, .int .u32 za, .int .u16 zp, .int .u16 zy] : Array Value) 25)) hb1
          have Xc1 := ((Box.alloc ((Box.alloc (Box.new_at w (#[.bool true, .int .u32 cb, .int .u32 ct, .int .u32 ca, .int .u16 cp, .int .u16 0] : Array Value) 25 (w.heap.size) (by first | rfl | (simp; done) | (simp; omega))) (.cells (#[.bool true, .int .u32 kb, .int .u32 kt, .int .u32 ka, .int .u16 kp, .int .u16 ky] : Array Value) 25))) (.cells (#[.bool ztg, .int .u32 zb, .int .u32 zt, .int .u32 za, .int .u16 zp, .int .u16 zy] : Array Value) 25))).later hb1
          have kc1 := Xc1.2
          have lc1 := Xc1.1
          have Xk1 := ((Box.alloc (Box.new_at (w.alloc (.cells #[.bool true, .int .u32 cb, .int .u32 ct, .int .u32 ca, .int .u16 cp, .int .u16 0] 25)) (#[.bool true, .int .u32 kb, .int .u32 kt, .int .u32 ka, .int .u16 kp, .int .u16 ky] : Array Value) 25 (w.heap.size + 1) (by first | rfl | (simp; done) | (simp; omega))) (.cells (#[.bool ztg, .int .u32 zb, .int .u32 zt, .int .u32 za, .int .u16 zp, .int .u16 zy] : Array Value) 25))).later hb1
          have kk1 := Xk1.2
          have lk1 := Xk1.1
          have Xz1 := (Box.new_at ((w.alloc (.cells #[.bool true, .int .u32 cb, .int .u32 ct, .int .u32 ca, .int .u16 cp, .int .u16 0] 25)).alloc (.cells #[.bool true, .int .u32 kb, .int .u32 kt, .int .u32 ka, .int .u16 kp, .int .u16 ky] 25)) (#[.bool ztg, .int .u32 zb, .int .u32 zt, .int .u32 za, .int .u16 zp, .int .u16 zy] : Array Value) 25 (w.heap.size + 2) (by first | rfl | (simp; done) | (simp; omega))).later hb1
          have kz1 := Xz1.2
          have lz1 := Xz1.1
          go_wp2_with fail
          ((with_reducible refine (seal_yes true cb ct ca cp 0 true kb kt ka kp ky _ hkt hka hs).mono ?_); rintro e w2 ⟨rfl, hb2⟩)
          have d2 := bt d1 hb2
          have Xc2 := Xc1.later hb2
          have kc2 := Xc2.2
          have lc2 := Xc2.1
          have Xk2 := Xk1.later hb2
          have kk2 := Xk2.2
          have lk2 := Xk2.1
          have Xz2 := Xz1.later hb2
          have kz2 := Xz2.2
          have lz2 := Xz2.1
          go_wp2_with fail
          ((with_reducible refine (setAddr_c true cb ct ca cp ka x _).mono ?_); rintro e w3 ⟨rfl, hb3⟩)
          have d3 := bt (ba d2 (.cells (#[.bool true, .int .u32 cb, .int .u32 ct, .int .u32 ca, .int .u16 cp, .int .u16 ka] : Array Value) 25)) hb3
          have Xc3 := (Xc2.alloc (.cells (#[.bool true, .int .u32 cb, .int .u32 ct, .int .u32 ca, .int .u16 cp, .int .u16 ka] : Array Value) 25)).later hb3
          have kc3 := Xc3.2
          have lc3 := Xc3.1
          have Xk3 := (Xk2.alloc (.cells (#[.bool true, .int .u32 cb, .int .u32 ct, .int .u32 ca, .int .u16 cp, .int .u16 ka] : Array Value) 25)).later hb3
          have kk3 := Xk3.2
          have lk3 := Xk3.1
          have Xz3 := (Xz2.alloc (.cells (#[.bool true, .int .u32 cb, .int .u32 ct, .int .u32 ca, .int .u16 cp, .int .u16 ka] : Array Value) 25)).later hb3
          have kz3 := Xz3.2
          have lz3 := Xz3.1
          have Xs3 := (Box.new w2 (#[.bool true, .int .u32 cb, .int .u32 ct, .int .u32 ca, .int .u16 cp, .int .u16 ka] : Array Value) 25).later hb3
          have ks3 := Xs3.2
          have ls3 := Xs3.1
          go_wp2_with fail
          ((with_reducible refine (bounds_c true cb ct ca cp ka x _ hct hca hx).mono ?_); rintro e w4 ⟨rfl, hb4⟩)
          have d4 := bt d3 hb4
          have Xc4 := Xc3.later hb4
          have kc4 := Xc4.2
          have lc4 := Xc4.1
          have Xk4 := Xk3.later hb4
          have kk4 := Xk4.2
          have lk4 := Xk4.1
          have Xz4 := Xz3.later hb4
          have kz4 := Xz4.2
          have lz4 := Xz4.1
          have Xs4 := Xs3.later hb4
          have ks4 := Xs4.2
          have ls4 := Xs4.1
          go_wp2_with fail
          ((with_reducible refine (andPerm_c true cb ct ca cp ka (IntKind.u16.wrap x) _).mono ?_); rintro e w5 ⟨rfl, hb5⟩)
          have d5 := bt d4 hb5
          have Xc5 := Xc4.later hb5
          have kc5 := Xc5.2
          have lc5 := Xc5.1
          have Xk5 := Xk4.later hb5
          have kk5 := Xk5.2
          have lk5 := Xk5.1
          have Xz5 := Xz4.later hb5
          have kz5 := Xz5.2
          have lz5 := Xz5.1
          have Xs5 := Xs4.later hb5
          have ks5 := Xs5.2
          have ls5 := Xs5.1
          go_wp2_with fail
          ((with_reducible refine (enter_c true cb ct ca cp ka _).mono ?_); rintro e w6 ⟨rfl, hb6⟩)
          have d6 := bt d5 hb6
          have Xc6 := Xc5.later hb6
          have kc6 := Xc6.2
          have lc6 := Xc6.1
          have Xk6 := Xk5.later hb6
          have kk6 := Xk6.2
          have lk6 := Xk6.1
          have Xz6 := Xz5.later hb6
          have kz6 := Xz6.2
          have lz6 := Xz6.1
          have Xs6 := Xs5.later hb6
          have ks6 := Xs6.2
          have ls6 := Xs6.1
          go_wp2_with fail
          ((with_reducible refine (seal_any true cb ct ca cp ka ztg zb zt za zp zy _ hzt hza).mono ?_); rintro e w7 ⟨rfl, hb7⟩)
          have d7 := bt d6 hb7
          have Xc7 := Xc6.later hb7
          have kc7 := Xc7.2
          have lc7 := Xc7.1
          have Xk7 := Xk6.later hb7
          have kk7 := Xk7.2
          have lk7 := Xk7.1
          have Xz7 := Xz6.later hb7
          have kz7 := Xz7.2
          have lz7 := Xz7.1
          have Xs7 := Xs6.later hb7
          have ks7 := Xs7.2
          have ls7 := Xs7.1
          go_wp2_with fail
          ((with_reducible refine (unseal_any true cb ct ca cp ka ztg zb zt za zp zy _ hk16 hzt hza).mono ?_); rintro e w8 ⟨rfl, hb8⟩)
          have d8 := bt d7 hb8
          have Xc8 := Xc7.later hb8
          have kc8 := Xc8.2
          have lc8 := Xc8.1
          have Xk8 := Xk7.later hb8
          have kk8 := Xk8.2
          have lk8 := Xk8.1
          have Xz8 := Xz7.later hb8
          have kz8 := Xz8.2
          have lz8 := Xz8.1
          have Xs8 := Xs7.later hb8
          have ks8 := Xs8.2
          have ls8 := Xs8.1
          go_upto_region 9 with (fail)
          try simp only [List.append_eq, List.cons_append, List.nil_append]
          refine reg_draw (by kernel_rfl) (by kernel_rfl) (fun W => Tab W ∧ Below w.heap.size w W ∧ Box W (w.heap.size) #[.bool true, .int .u32 cb, .int .u32 ct, .int .u32 ca, .int .u16 cp, .int .u16 0] ∧ Box W (w.heap.size + 1) #[.bool true, .int .u32 kb, .int .u32 kt, .int .u32 ka, .int .u16 kp, .int .u16 ky] ∧ Box W (w.heap.size + 2) #[.bool ztg, .int .u32 zb, .int .u32 zt, .int .u32 za, .int .u16 zp, .int .u16 zy] ∧ Box W (w2.heap.size) #[.bool true, .int .u32 cb, .int .u32 ct, .int .u32 ca, .int .u16 cp, .int .u16 ka] ∧ Box W (w8.heap.size) #[.bool true, .int .u32 cb, .int .u32 ct, .int .u32 ca, .int .u16 cp, .int .u16 (unsealY ka ztg zb zt za zp zy)]) ⟨htab.later (ba d8 (.cells (#[.bool true, .int .u32 cb, .int .u32 ct, .int .u32 ca, .int .u16 cp, .int .u16 (unsealY ka ztg zb zt za zp zy)] : Array Value) 25)), (ba d8 (.cells (#[.bool true, .int .u32 cb, .int .u32 ct, .int .u32 ca, .int .u16 cp, .int .u16 (unsealY ka ztg zb zt za zp zy)] : Array Value) 25)), (Xc8.alloc (.cells (#[.bool true, .int .u32 cb, .int .u32 ct, .int .u32 ca, .int .u16 cp, .int .u16 (unsealY ka ztg zb zt za zp zy)] : Array Value) 25)), (Xk8.alloc (.cells (#[.bool true, .int .u32 cb, .int .u32 ct, .int .u32 ca, .int .u16 cp, .int .u16 (unsealY ka ztg zb zt za zp zy)] : Array Value) 25)), (Xz8.alloc (.cells (#[.bool true, .int .u32 cb, .int .u32 ct, .int .u32 ca, .int .u16 cp, .int .u16 (unsealY ka ztg zb zt za zp zy)] : Array Value) 25)), (Xs8.alloc (.cells (#[.bool true, .int .u32 cb, .int .u32 ct, .int .u32 ca, .int .u16 cp, .int .u16 (unsealY ka ztg zb zt za zp zy)] : Array Value) 25)), (Box.new w8 (#[.bool true, .int .u32 cb, .int .u32 ct, .int .u32 ca, .int .u16 cp, .int .u16 (unsealY ka ztg zb zt za zp zy)] : Array Value) 25)⟩ ?_
          rintro W ⟨T, D, Yc, Yk, Yz, Ys, Yu⟩
          have Cc := Yc.at_
          have Ck := Yk.at_
          have Cz := Yz.at_
          have Cs := Ys.at_
          have Cu := Yu.at_
          repeat (go_big_quiet_step (first | (go_at_call 20; exact Later.call (unseal_v _ _ _ _ _ _ _ _ _ _ _ _ _ (by assumption) (by assumption) (by assumption) (by assumption)))))
          refine wpQuiet_nil ?_
          rintro _ ⟨u, rfl⟩
          go_wp2
          go_ret
          exact ⟨rfl, bt D u.below⟩
        · have eU : unsealB ka true kb kt ka kp ky = true := unseal_own gh gy k2 hkp h64
          have eY : unsealY ka true kb kt ka kp ky = 0 := by unfold unsealY; rw [if_pos eU]
          go_enter Tryd.func10, Tryd.ntmps10
          go_wp2_with fail
          ((with_reducible refine (known_c _ (htab.later (ba (ba (ba (b0 w) (.cells (#[.bool true, .int .u32 cb, .int .u32 ct, .int .u32 ca, .int .u16 cp, .int .u16 0] : Array Value) 25)) (.cells (#[.bool true, .int .u32 kb, .int .u32 kt, .int .u32 ka, .int .u16 kp, .int .u16 ky] : Array Value) 25)) (.cells (#[.bool ztg, .int .u32 zb, .int .u32 zt, .int .u32 za, .int .u16 zp, .int .u16 zy] : Array Value) 25)))).mono ?_); rintro e w1 ⟨rfl, hb1⟩)
          have d1 := bt (ba (ba (ba (b0 w) (.cells (#[.bool true, .int .u32 cb, .int .u32 ct, .int .u32 ca, .int .u16 cp, .int .u16 0] : Array Value) 25)) (.cells (#[.bool true, .int .u32 kb, .int .u32 kt, .int .u32 ka, .int .u16 kp, .int .u16 ky] : Array Value) 25)) (.cells (#[.bool ztg, .int .u32 zb, .int .u32 zt, .int .u32 za, .int .u16 zp, .int .u16 zy] : Array Value) 25)) hb1
          have Xc1 := ((Box.alloc ((Box.alloc (Box.new_at w (#[.bool true, .int .u32 cb, .int .u32 ct, .int .u32 ca, .int .u16 cp, .int .u16 0] : Array Value) 25 (w.heap.size) (by first | rfl | (simp; done) | (simp; omega))) (.cells (#[.bool true, .int .u32 kb, .int .u32 kt, .int .u32 ka, .int .u16 kp, .int .u16 ky] : Array Value) 25))) (.cells (#[.bool ztg, .int .u32 zb, .int .u32 zt, .int .u32 za, .int .u16 zp, .int .u16 zy] : Array Value) 25))).later hb1
          have kc1 := Xc1.2
          have lc1 := Xc1.1
          have Xk1 := ((Box.alloc (Box.new_at (w.alloc (.cells #[.bool true, .int .u32 cb, .int .u32 ct, .int .u32 ca, .int .u16 cp, .int .u16 0] 25)) (#[.bool true, .int .u32 kb, .int .u32 kt, .int .u32 ka, .int .u16 kp, .int .u16 ky] : Array Value) 25 (w.heap.size + 1) (by first | rfl | (simp; done) | (simp; omega))) (.cells (#[.bool ztg, .int .u32 zb, .int .u32 zt, .int .u32 za, .int .u16 zp, .int .u16 zy] : Array Value) 25))).later hb1
          have kk1 := Xk1.2
          have lk1 := Xk1.1
          have Xz1 := (Box.new_at ((w.alloc (.cells #[.bool true, .int .u32 cb, .int .u32 ct, .int .u32 ca, .int .u16 cp, .int .u16 0] 25)).alloc (.cells #[.bool true, .int .u32 kb, .int .u32 kt, .int .u32 ka, .int .u16 kp, .int .u16 ky] 25)) (#[.bool ztg, .int .u32 zb, .int .u32 zt, .int .u32 za, .int .u16 zp, .int .u16 zy] : Array Value) 25 (w.heap.size + 2) (by first | rfl | (simp; done) | (simp; omega))).later hb1
          have kz1 := Xz1.2
          have lz1 := Xz1.1
          go_wp2_with fail
          ((with_reducible refine (seal_yes true cb ct ca cp 0 true kb kt ka kp ky _ hkt hka hs).mono ?_); rintro e w2 ⟨rfl, hb2⟩)
          have d2 := bt d1 hb2
          have Xc2 := Xc1.later hb2
          have kc2 := Xc2.2
          have lc2 := Xc2.1
          have Xk2 := Xk1.later hb2
          have kk2 := Xk2.2
          have lk2 := Xk2.1
          have Xz2 := Xz1.later hb2
          have kz2 := Xz2.2
          have lz2 := Xz2.1
          go_wp2_with fail
          ((with_reducible refine (setAddr_c true cb ct ca cp ka x _).mono ?_); rintro e w3 ⟨rfl, hb3⟩)
          have d3 := bt (ba d2 (.cells (#[.bool true, .int .u32 cb, .int .u32 ct, .int .u32 ca, .int .u16 cp, .int .u16 ka] : Array Value) 25)) hb3
          have Xc3 := (Xc2.alloc (.cells (#[.bool true, .int .u32 cb, .int .u32 ct, .int .u32 ca, .int .u16 cp, .int .u16 ka] : Array Value) 25)).later hb3
          have kc3 := Xc3.2
          have lc3 := Xc3.1
          have Xk3 := (Xk2.alloc (.cells (#[.bool true, .int .u32 cb, .int .u32 ct, .int .u32 ca, .int .u16 cp, .int .u16 ka] : Array Value) 25)).later hb3
          have kk3 := Xk3.2
          have lk3 := Xk3.1
          have Xz3 := (Xz2.alloc (.cells (#[.bool true, .int .u32 cb, .int .u32 ct, .int .u32 ca, .int .u16 cp, .int .u16 ka] : Array Value) 25)).later hb3
          have kz3 := Xz3.2
          have lz3 := Xz3.1
          have Xs3 := (Box.new w2 (#[.bool true, .int .u32 cb, .int .u32 ct, .int .u32 ca, .int .u16 cp, .int .u16 ka] : Array Value) 25).later hb3
          have ks3 := Xs3.2
          have ls3 := Xs3.1
          go_wp2_with fail
          ((with_reducible refine (bounds_c true cb ct ca cp ka x _ hct hca hx).mono ?_); rintro e w4 ⟨rfl, hb4⟩)
          have d4 := bt d3 hb4
          have Xc4 := Xc3.later hb4
          have kc4 := Xc4.2
          have lc4 := Xc4.1
          have Xk4 := Xk3.later hb4
          have kk4 := Xk4.2
          have lk4 := Xk4.1
          have Xz4 := Xz3.later hb4
          have kz4 := Xz4.2
          have lz4 := Xz4.1
          have Xs4 := Xs3.later hb4
          have ks4 := Xs4.2
          have ls4 := Xs4.1
          go_wp2_with fail
          ((with_reducible refine (andPerm_c true cb ct ca cp ka (IntKind.u16.wrap x) _).mono ?_); rintro e w5 ⟨rfl, hb5⟩)
          have d5 := bt d4 hb5
          have Xc5 := Xc4.later hb5
          have kc5 := Xc5.2
          have lc5 := Xc5.1
          have Xk5 := Xk4.later hb5
          have kk5 := Xk5.2
          have lk5 := Xk5.1
          have Xz5 := Xz4.later hb5
          have kz5 := Xz5.2
          have lz5 := Xz5.1
          have Xs5 := Xs4.later hb5
          have ks5 := Xs5.2
          have ls5 := Xs5.1
          go_wp2_with fail
          ((with_reducible refine (enter_c true cb ct ca cp ka _).mono ?_); rintro e w6 ⟨rfl, hb6⟩)
          have d6 := bt d5 hb6
          have Xc6 := Xc5.later hb6
          have kc6 := Xc6.2
          have lc6 := Xc6.1
          have Xk6 := Xk5.later hb6
          have kk6 := Xk6.2
          have lk6 := Xk6.1
          have Xz6 := Xz5.later hb6
          have kz6 := Xz6.2
          have lz6 := Xz6.1
          have Xs6 := Xs5.later hb6
          have ks6 := Xs6.2
          have ls6 := Xs6.1
          go_wp2_with fail
          ((with_reducible refine (seal_any true cb ct ca cp ka ztg zb zt za zp zy _ hzt hza).mono ?_); rintro e w7 ⟨rfl, hb7⟩)
          have d7 := bt d6 hb7
          have Xc7 := Xc6.later hb7
          have kc7 := Xc7.2
          have lc7 := Xc7.1
          have Xk7 := Xk6.later hb7
          have kk7 := Xk7.2
          have lk7 := Xk7.1
          have Xz7 := Xz6.later hb7
          have kz7 := Xz7.2
          have lz7 := Xz7.1
          have Xs7 := Xs6.later hb7
          have ks7 := Xs7.2
          have ls7 := Xs7.1
          go_wp2_with fail
          ((with_reducible refine (unseal_any true cb ct ca cp ka ztg zb zt za zp zy _ hk16 hzt hza).mono ?_); rintro e w8 ⟨rfl, hb8⟩)
          have d8 := bt d7 hb8
          have Xc8 := Xc7.later hb8
          have kc8 := Xc8.2
          have lc8 := Xc8.1
          have Xk8 := Xk7.later hb8
          have kk8 := Xk8.2
          have lk8 := Xk8.1
          have Xz8 := Xz7.later hb8
          have kz8 := Xz8.2
          have lz8 := Xz8.1
          have Xs8 := Xs7.later hb8
          have ks8 := Xs8.2
          have ls8 := Xs8.1
          go_upto_region 9 with (fail)
          try simp only [List.append_eq, List.cons_append, List.nil_append]
          refine reg_draw (by kernel_rfl) (by kernel_rfl) (fun W => Tab W ∧ Below w.heap.size w W ∧ Box W (w.heap.size) #[.bool true, .int .u32 cb, .int .u32 ct, .int .u32 ca, .int .u16 cp, .int .u16 0] ∧ Box W (w.heap.size + 1) #[.bool true, .int .u32 kb, .int .u32 kt, .int .u32 ka, .int .u16 kp, .int .u16 ky] ∧ Box W (w.heap.size + 2) #[.bool ztg, .int .u32 zb, .int .u32 zt, .int .u32 za, .int .u16 zp, .int .u16 zy] ∧ Box W (w2.heap.size) #[.bool true, .int .u32 cb, .int .u32 ct, .int .u32 ca, .int .u16 cp, .int .u16 ka] ∧ Box W (w8.heap.size) #[.bool true, .int .u32 cb, .int .u32 ct, .int .u32 ca, .int .u16 cp, .int .u16 (unsealY ka ztg zb zt za zp zy)]) ⟨htab.later (ba d8 (.cells (#[.bool true, .int .u32 cb, .int .u32 ct, .int .u32 ca, .int .u16 cp, .int .u16 (unsealY ka ztg zb zt za zp zy)] : Array Value) 25)), (ba d8 (.cells (#[.bool true, .int .u32 cb, .int .u32 ct, .int .u32 ca, .int .u16 cp, .int .u16 (unsealY ka ztg zb zt za zp zy)] : Array Value) 25)), (Xc8.alloc (.cells (#[.bool true, .int .u32 cb, .int .u32 ct, .int .u32 ca, .int .u16 cp, .int .u16 (unsealY ka ztg zb zt za zp zy)] : Array Value) 25)), (Xk8.alloc (.cells (#[.bool true, .int .u32 cb, .int .u32 ct, .int .u32 ca, .int .u16 cp, .int .u16 (unsealY ka ztg zb zt za zp zy)] : Array Value) 25)), (Xz8.alloc (.cells (#[.bool true, .int .u32 cb, .int .u32 ct, .int .u32 ca, .int .u16 cp, .int .u16 (unsealY ka ztg zb zt za zp zy)] : Array Value) 25)), (Xs8.alloc (.cells (#[.bool true, .int .u32 cb, .int .u32 ct, .int .u32 ca, .int .u16 cp, .int .u16 (unsealY ka ztg zb zt za zp zy)] : Array Value) 25)), (Box.new w8 (#[.bool true, .int .u32 cb, .int .u32 ct, .int .u32 ca, .int .u16 cp, .int .u16 (unsealY ka ztg zb zt za zp zy)] : Array Value) 25)⟩ ?_
          rintro W ⟨T, D, Yc, Yk, Yz, Ys, Yu⟩
          have Cc := Yc.at_
          have Ck := Yk.at_
          have Cz := Yz.at_
          have Cs := Ys.at_
          have Cu := Yu.at_
          repeat (go_big_quiet_step (first | (go_at_call 20; exact Later.call (unseal_v _ _ _ _ _ _ _ _ _ _ _ _ _ (by assumption) (by assumption) (by assumption) (by assumption)))))
          refine wpQuiet_nil ?_
          rintro _ ⟨u, rfl⟩
          go_wp2
          go_ret
          exact ⟨rfl, bt D u.below⟩
      · rcases Bool.eq_false_or_eq_true (bits .and .u16 kp 64 == 0) with h64 | h64
        · go_enter Tryd.func10, Tryd.ntmps10
          go_wp2_with fail
          ((with_reducible refine (known_c _ (htab.later (ba (ba (ba (b0 w) (.cells (#[.bool true, .int .u32 cb, .int .u32 ct, .int .u32 ca, .int .u16 cp, .int .u16 0] : Array Value) 25)) (.cells (#[.bool true, .int .u32 kb, .int .u32 kt, .int .u32 ka, .int .u16 kp, .int .u16 ky] : Array Value) 25)) (.cells (#[.bool ztg, .int .u32 zb, .int .u32 zt, .int .u32 za, .int .u16 zp, .int .u16 zy] : Array Value) 25)))).mono ?_); rintro e w1 ⟨rfl, hb1⟩)
          have d1 := bt (ba (ba (ba (b0 w) (.cells (#[.bool true, .int .u32 cb, .int .u32 ct, .int .u32 ca, .int .u16 cp, .int .u16 0] : Array Value) 25)) (.cells (#[.bool true, .int .u32 kb, .int .u32 kt, .int .u32 ka, .int .u16 kp, .int .u16 ky] : Array Value) 25)) (.cells (#[.bool ztg, .int .u32 zb, .int .u32 zt, .int .u32 za, .int .u16 zp, .int .u16 zy] : Array Value) 25)) hb1
          have Xc1 := ((Box.alloc ((Box.alloc (Box.new_at w (#[.bool true, .int .u32 cb, .int .u32 ct, .int .u32 ca, .int .u16 cp, .int .u16 0] : Array Value) 25 (w.heap.size) (by first | rfl | (simp; done) | (simp; omega))) (.cells (#[.bool true, .int .u32 kb, .int .u32 kt, .int .u32 ka, .int .u16 kp, .int .u16 ky] : Array Value) 25))) (.cells (#[.bool ztg, .int .u32 zb, .int .u32 zt, .int .u32 za, .int .u16 zp, .int .u16 zy] : Array Value) 25))).later hb1
          have kc1 := Xc1.2
          have lc1 := Xc1.1
          have Xk1 := ((Box.alloc (Box.new_at (w.alloc (.cells #[.bool true, .int .u32 cb, .int .u32 ct, .int .u32 ca, .int .u16 cp, .int .u16 0] 25)) (#[.bool true, .int .u32 kb, .int .u32 kt, .int .u32 ka, .int .u16 kp, .int .u16 ky] : Array Value) 25 (w.heap.size + 1) (by first | rfl | (simp; done) | (simp; omega))) (.cells (#[.bool ztg, .int .u32 zb, .int .u32 zt, .int .u32 za, .int .u16 zp, .int .u16 zy] : Array Value) 25))).later hb1
          have kk1 := Xk1.2
          have lk1 := Xk1.1
          have Xz1 := (Box.new_at ((w.alloc (.cells #[.bool true, .int .u32 cb, .int .u32 ct, .int .u32 ca, .int .u16 cp, .int .u16 0] 25)).alloc (.cells #[.bool true, .int .u32 kb, .int .u32 kt, .int .u32 ka, .int .u16 kp, .int .u16 ky] 25)) (#[.bool ztg, .int .u32 zb, .int .u32 zt, .int .u32 za, .int .u16 zp, .int .u16 zy] : Array Value) 25 (w.heap.size + 2) (by first | rfl | (simp; done) | (simp; omega))).later hb1
          have kz1 := Xz1.2
          have lz1 := Xz1.1
          go_wp2_with fail
          ((with_reducible refine (seal_yes true cb ct ca cp 0 true kb kt ka kp ky _ hkt hka hs).mono ?_); rintro e w2 ⟨rfl, hb2⟩)
          have d2 := bt d1 hb2
          have Xc2 := Xc1.later hb2
          have kc2 := Xc2.2
          have lc2 := Xc2.1
          have Xk2 := Xk1.later hb2
          have kk2 := Xk2.2
          have lk2 := Xk2.1
          have Xz2 := Xz1.later hb2
          have kz2 := Xz2.2
          have lz2 := Xz2.1
          go_wp2_with fail
          ((with_reducible refine (setAddr_c true cb ct ca cp ka x _).mono ?_); rintro e w3 ⟨rfl, hb3⟩)
          have d3 := bt (ba d2 (.cells (#[.bool true, .int .u32 cb, .int .u32 ct, .int .u32 ca, .int .u16 cp, .int .u16 ka] : Array Value) 25)) hb3
          have Xc3 := (Xc2.alloc (.cells (#[.bool true, .int .u32 cb, .int .u32 ct, .int .u32 ca, .int .u16 cp, .int .u16 ka] : Array Value) 25)).later hb3
          have kc3 := Xc3.2
          have lc3 := Xc3.1
          have Xk3 := (Xk2.alloc (.cells (#[.bool true, .int .u32 cb, .int .u32 ct, .int .u32 ca, .int .u16 cp, .int .u16 ka] : Array Value) 25)).later hb3
          have kk3 := Xk3.2
          have lk3 := Xk3.1
          have Xz3 := (Xz2.alloc (.cells (#[.bool true, .int .u32 cb, .int .u32 ct, .int .u32 ca, .int .u16 cp, .int .u16 ka] : Array Value) 25)).later hb3
          have kz3 := Xz3.2
          have lz3 := Xz3.1
          have Xs3 := (Box.new w2 (#[.bool true, .int .u32 cb, .int .u32 ct, .int .u32 ca, .int .u16 cp, .int .u16 ka] : Array Value) 25).later hb3
          have ks3 := Xs3.2
          have ls3 := Xs3.1
          go_wp2_with fail
          ((with_reducible refine (bounds_c true cb ct ca cp ka x _ hct hca hx).mono ?_); rintro e w4 ⟨rfl, hb4⟩)
          have d4 := bt d3 hb4
          have Xc4 := Xc3.later hb4
          have kc4 := Xc4.2
          have lc4 := Xc4.1
          have Xk4 := Xk3.later hb4
          have kk4 := Xk4.2
          have lk4 := Xk4.1
          have Xz4 := Xz3.later hb4
          have kz4 := Xz4.2
          have lz4 := Xz4.1
          have Xs4 := Xs3.later hb4
          have ks4 := Xs4.2
          have ls4 := Xs4.1
          go_wp2_with fail
          ((with_reducible refine (andPerm_c true cb ct ca cp ka (IntKind.u16.wrap x) _).mono ?_); rintro e w5 ⟨rfl, hb5⟩)
          have d5 := bt d4 hb5
          have Xc5 := Xc4.later hb5
          have kc5 := Xc5.2
          have lc5 := Xc5.1
          have Xk5 := Xk4.later hb5
          have kk5 := Xk5.2
          have lk5 := Xk5.1
          have Xz5 := Xz4.later hb5
          have kz5 := Xz5.2
          have lz5 := Xz5.1
          have Xs5 := Xs4.later hb5
          have ks5 := Xs5.2
          have ls5 := Xs5.1
          go_wp2_with fail
          ((with_reducible refine (enter_c true cb ct ca cp ka _).mono ?_); rintro e w6 ⟨rfl, hb6⟩)
          have d6 := bt d5 hb6
          have Xc6 := Xc5.later hb6
          have kc6 := Xc6.2
          have lc6 := Xc6.1
          have Xk6 := Xk5.later hb6
          have kk6 := Xk6.2
          have lk6 := Xk6.1
          have Xz6 := Xz5.later hb6
          have kz6 := Xz6.2
          have lz6 := Xz6.1
          have Xs6 := Xs5.later hb6
          have ks6 := Xs6.2
          have ls6 := Xs6.1
          go_wp2_with fail
          ((with_reducible refine (seal_any true cb ct ca cp ka ztg zb zt za zp zy _ hzt hza).mono ?_); rintro e w7 ⟨rfl, hb7⟩)
          have d7 := bt d6 hb7
          have Xc7 := Xc6.later hb7
          have kc7 := Xc7.2
          have lc7 := Xc7.1
          have Xk7 := Xk6.later hb7
          have kk7 := Xk7.2
          have lk7 := Xk7.1
          have Xz7 := Xz6.later hb7
          have kz7 := Xz7.2
          have lz7 := Xz7.1
          have Xs7 := Xs6.later hb7
          have ks7 := Xs7.2
          have ls7 := Xs7.1
          go_wp2_with fail
          ((with_reducible refine (unseal_any true cb ct ca cp ka ztg zb zt za zp zy _ hk16 hzt hza).mono ?_); rintro e w8 ⟨rfl, hb8⟩)
          have d8 := bt d7 hb8
          have Xc8 := Xc7.later hb8
          have kc8 := Xc8.2
          have lc8 := Xc8.1
          have Xk8 := Xk7.later hb8
          have kk8 := Xk8.2
          have lk8 := Xk8.1
          have Xz8 := Xz7.later hb8
          have kz8 := Xz8.2
          have lz8 := Xz8.1
          have Xs8 := Xs7.later hb8
          have ks8 := Xs8.2
          have ls8 := Xs8.1
          go_upto_region 9 with (fail)
          try simp only [List.append_eq, List.cons_append, List.nil_append]
          refine reg_draw (by kernel_rfl) (by kernel_rfl) (fun W => Tab W ∧ Below w.heap.size w W ∧ Box W (w.heap.size) #[.bool true, .int .u32 cb, .int .u32 ct, .int .u32 ca, .int .u16 cp, .int .u16 0] ∧ Box W (w.heap.size + 1) #[.bool true, .int .u32 kb, .int .u32 kt, .int .u32 ka, .int .u16 kp, .int .u16 ky] ∧ Box W (w.heap.size + 2) #[.bool ztg, .int .u32 zb, .int .u32 zt, .int .u32 za, .int .u16 zp, .int .u16 zy] ∧ Box W (w2.heap.size) #[.bool true, .int .u32 cb, .int .u32 ct, .int .u32 ca, .int .u16 cp, .int .u16 ka] ∧ Box W (w8.heap.size) #[.bool false, .int .u32 cb, .int .u32 ct, .int .u32 ca, .int .u16 cp, .int .u16 (unsealY ka ztg zb zt za zp zy)]) ⟨htab.later (ba d8 (.cells (#[.bool false, .int .u32 cb, .int .u32 ct, .int .u32 ca, .int .u16 cp, .int .u16 (unsealY ka ztg zb zt za zp zy)] : Array Value) 25)), (ba d8 (.cells (#[.bool false, .int .u32 cb, .int .u32 ct, .int .u32 ca, .int .u16 cp, .int .u16 (unsealY ka ztg zb zt za zp zy)] : Array Value) 25)), (Xc8.alloc (.cells (#[.bool false, .int .u32 cb, .int .u32 ct, .int .u32 ca, .int .u16 cp, .int .u16 (unsealY ka ztg zb zt za zp zy)] : Array Value) 25)), (Xk8.alloc (.cells (#[.bool false, .int .u32 cb, .int .u32 ct, .int .u32 ca, .int .u16 cp, .int .u16 (unsealY ka ztg zb zt za zp zy)] : Array Value) 25)), (Xz8.alloc (.cells (#[.bool false, .int .u32 cb, .int .u32 ct, .int .u32 ca, .int .u16 cp, .int .u16 (unsealY ka ztg zb zt za zp zy)] : Array Value) 25)), (Xs8.alloc (.cells (#[.bool false, .int .u32 cb, .int .u32 ct, .int .u32 ca, .int .u16 cp, .int .u16 (unsealY ka ztg zb zt za zp zy)] : Array Value) 25)), (Box.new w8 (#[.bool false, .int .u32 cb, .int .u32 ct, .int .u32 ca, .int .u16 cp, .int .u16 (unsealY ka ztg zb zt za zp zy)] : Array Value) 25)⟩ ?_
          rintro W ⟨T, D, Yc, Yk, Yz, Ys, Yu⟩
          have Cc := Yc.at_
          have Ck := Yk.at_
          have Cz := Yz.at_
          have Cs := Ys.at_
          have Cu := Yu.at_
          repeat (go_big_quiet_step (first | (go_at_call 20; exact Later.call (unseal_v _ _ _ _ _ _ _ _ _ _ _ _ _ (by assumption) (by assumption) (by assumption) (by assumption)))))
          refine wpQuiet_nil ?_
          rintro _ ⟨u, rfl⟩
          go_wp2
          go_ret
          exact ⟨rfl, bt D u.below⟩
        · have eU : unsealB ka true kb kt ka kp ky = true := unseal_own gh gy k2 hkp h64
          have eY : unsealY ka true kb kt ka kp ky = 0 := by unfold unsealY; rw [if_pos eU]
          go_enter Tryd.func10, Tryd.ntmps10
          go_wp2_with fail
          ((with_reducible refine (known_c _ (htab.later (ba (ba (ba (b0 w) (.cells (#[.bool true, .int .u32 cb, .int .u32 ct, .int .u32 ca, .int .u16 cp, .int .u16 0] : Array Value) 25)) (.cells (#[.bool true, .int .u32 kb, .int .u32 kt, .int .u32 ka, .int .u16 kp, .int .u16 ky] : Array Value) 25)) (.cells (#[.bool ztg, .int .u32 zb, .int .u32 zt, .int .u32 za, .int .u16 zp, .int .u16 zy] : Array Value) 25)))).mono ?_); rintro e w1 ⟨rfl, hb1⟩)
          have d1 := bt (ba (ba (ba (b0 w) (.cells (#[.bool true, .int .u32 cb, .int .u32 ct, .int .u32 ca, .int .u16 cp, .int .u16 0] : Array Value) 25)) (.cells (#[.bool true, .int .u32 kb, .int .u32 kt, .int .u32 ka, .int .u16 kp, .int .u16 ky] : Array Value) 25)) (.cells (#[.bool ztg, .int .u32 zb, .int .u32 zt, .int .u32 za, .int .u16 zp, .int .u16 zy] : Array Value) 25)) hb1
          have Xc1 := ((Box.alloc ((Box.alloc (Box.new_at w (#[.bool true, .int .u32 cb, .int .u32 ct, .int .u32 ca, .int .u16 cp, .int .u16 0] : Array Value) 25 (w.heap.size) (by first | rfl | (simp; done) | (simp; omega))) (.cells (#[.bool true, .int .u32 kb, .int .u32 kt, .int .u32 ka, .int .u16 kp, .int .u16 ky] : Array Value) 25))) (.cells (#[.bool ztg, .int .u32 zb, .int .u32 zt, .int .u32 za, .int .u16 zp, .int .u16 zy] : Array Value) 25))).later hb1
          have kc1 := Xc1.2
          have lc1 := Xc1.1
          have Xk1 := ((Box.alloc (Box.new_at (w.alloc (.cells #[.bool true, .int .u32 cb, .int .u32 ct, .int .u32 ca, .int .u16 cp, .int .u16 0] 25)) (#[.bool true, .int .u32 kb, .int .u32 kt, .int .u32 ka, .int .u16 kp, .int .u16 ky] : Array Value) 25 (w.heap.size + 1) (by first | rfl | (simp; done) | (simp; omega))) (.cells (#[.bool ztg, .int .u32 zb, .int .u32 zt, .int .u32 za, .int .u16 zp, .int .u16 zy] : Array Value) 25))).later hb1
          have kk1 := Xk1.2
          have lk1 := Xk1.1
          have Xz1 := (Box.new_at ((w.alloc (.cells #[.bool true, .int .u32 cb, .int .u32 ct, .int .u32 ca, .int .u16 cp, .int .u16 0] 25)).alloc (.cells #[.bool true, .int .u32 kb, .int .u32 kt, .int .u32 ka, .int .u16 kp, .int .u16 ky] 25)) (#[.bool ztg, .int .u32 zb, .int .u32 zt, .int .u32 za, .int .u16 zp, .int .u16 zy] : Array Value) 25 (w.heap.size + 2) (by first | rfl | (simp; done) | (simp; omega))).later hb1
          have kz1 := Xz1.2
          have lz1 := Xz1.1
          go_wp2_with fail
          ((with_reducible refine (seal_yes true cb ct ca cp 0 true kb kt ka kp ky _ hkt hka hs).mono ?_); rintro e w2 ⟨rfl, hb2⟩)
          have d2 := bt d1 hb2
          have Xc2 := Xc1.later hb2
          have kc2 := Xc2.2
          have lc2 := Xc2.1
          have Xk2 := Xk1.later hb2
          have kk2 := Xk2.2
          have lk2 := Xk2.1
          have Xz2 := Xz1.later hb2
          have kz2 := Xz2.2
          have lz2 := Xz2.1
          go_wp2_with fail
          ((with_reducible refine (setAddr_c true cb ct ca cp ka x _).mono ?_); rintro e w3 ⟨rfl, hb3⟩)
          have d3 := bt (ba d2 (.cells (#[.bool true, .int .u32 cb, .int .u32 ct, .int .u32 ca, .int .u16 cp, .int .u16 ka] : Array Value) 25)) hb3
          have Xc3 := (Xc2.alloc (.cells (#[.bool true, .int .u32 cb, .int .u32 ct, .int .u32 ca, .int .u16 cp, .int .u16 ka] : Array Value) 25)).later hb3
          have kc3 := Xc3.2
          have lc3 := Xc3.1
          have Xk3 := (Xk2.alloc (.cells (#[.bool true, .int .u32 cb, .int .u32 ct, .int .u32 ca, .int .u16 cp, .int .u16 ka] : Array Value) 25)).later hb3
          have kk3 := Xk3.2
          have lk3 := Xk3.1
          have Xz3 := (Xz2.alloc (.cells (#[.bool true, .int .u32 cb, .int .u32 ct, .int .u32 ca, .int .u16 cp, .int .u16 ka] : Array Value) 25)).later hb3
          have kz3 := Xz3.2
          have lz3 := Xz3.1
          have Xs3 := (Box.new w2 (#[.bool true, .int .u32 cb, .int .u32 ct, .int .u32 ca, .int .u16 cp, .int .u16 ka] : Array Value) 25).later hb3
          have ks3 := Xs3.2
          have ls3 := Xs3.1
          go_wp2_with fail
          ((with_reducible refine (bounds_c true cb ct ca cp ka x _ hct hca hx).mono ?_); rintro e w4 ⟨rfl, hb4⟩)
          have d4 := bt d3 hb4
          have Xc4 := Xc3.later hb4
          have kc4 := Xc4.2
          have lc4 := Xc4.1
          have Xk4 := Xk3.later hb4
          have kk4 := Xk4.2
          have lk4 := Xk4.1
          have Xz4 := Xz3.later hb4
          have kz4 := Xz4.2
          have lz4 := Xz4.1
          have Xs4 := Xs3.later hb4
          have ks4 := Xs4.2
          have ls4 := Xs4.1
          go_wp2_with fail
          ((with_reducible refine (andPerm_c true cb ct ca cp ka (IntKind.u16.wrap x) _).mono ?_); rintro e w5 ⟨rfl, hb5⟩)
          have d5 := bt d4 hb5
          have Xc5 := Xc4.later hb5
          have kc5 := Xc5.2
          have lc5 := Xc5.1
          have Xk5 := Xk4.later hb5
          have kk5 := Xk5.2
          have lk5 := Xk5.1
          have Xz5 := Xz4.later hb5
          have kz5 := Xz5.2
          have lz5 := Xz5.1
          have Xs5 := Xs4.later hb5
          have ks5 := Xs5.2
          have ls5 := Xs5.1
          go_wp2_with fail
          ((with_reducible refine (enter_c true cb ct ca cp ka _).mono ?_); rintro e w6 ⟨rfl, hb6⟩)
          have d6 := bt d5 hb6
          have Xc6 := Xc5.later hb6
          have kc6 := Xc6.2
          have lc6 := Xc6.1
          have Xk6 := Xk5.later hb6
          have kk6 := Xk6.2
          have lk6 := Xk6.1
          have Xz6 := Xz5.later hb6
          have kz6 := Xz6.2
          have lz6 := Xz6.1
          have Xs6 := Xs5.later hb6
          have ks6 := Xs6.2
          have ls6 := Xs6.1
          go_wp2_with fail
          ((with_reducible refine (seal_any true cb ct ca cp ka ztg zb zt za zp zy _ hzt hza).mono ?_); rintro e w7 ⟨rfl, hb7⟩)
          have d7 := bt d6 hb7
          have Xc7 := Xc6.later hb7
          have kc7 := Xc7.2
          have lc7 := Xc7.1
          have Xk7 := Xk6.later hb7
          have kk7 := Xk7.2
          have lk7 := Xk7.1
          have Xz7 := Xz6.later hb7
          have kz7 := Xz7.2
          have lz7 := Xz7.1
          have Xs7 := Xs6.later hb7
          have ks7 := Xs7.2
          have ls7 := Xs7.1
          go_wp2_with fail
          ((with_reducible refine (unseal_any true cb ct ca cp ka ztg zb zt za zp zy _ hk16 hzt hza).mono ?_); rintro e w8 ⟨rfl, hb8⟩)
          have d8 := bt d7 hb8
          have Xc8 := Xc7.later hb8
          have kc8 := Xc8.2
          have lc8 := Xc8.1
          have Xk8 := Xk7.later hb8
          have kk8 := Xk8.2
          have lk8 := Xk8.1
          have Xz8 := Xz7.later hb8
          have kz8 := Xz8.2
          have lz8 := Xz8.1
          have Xs8 := Xs7.later hb8
          have ks8 := Xs8.2
          have ls8 := Xs8.1
          go_upto_region 9 with (fail)
          try simp only [List.append_eq, List.cons_append, List.nil_append]
          refine reg_draw (by kernel_rfl) (by kernel_rfl) (fun W => Tab W ∧ Below w.heap.size w W ∧ Box W (w.heap.size) #[.bool true, .int .u32 cb, .int .u32 ct, .int .u32 ca, .int .u16 cp, .int .u16 0] ∧ Box W (w.heap.size + 1) #[.bool true, .int .u32 kb, .int .u32 kt, .int .u32 ka, .int .u16 kp, .int .u16 ky] ∧ Box W (w.heap.size + 2) #[.bool ztg, .int .u32 zb, .int .u32 zt, .int .u32 za, .int .u16 zp, .int .u16 zy] ∧ Box W (w2.heap.size) #[.bool true, .int .u32 cb, .int .u32 ct, .int .u32 ca, .int .u16 cp, .int .u16 ka] ∧ Box W (w8.heap.size) #[.bool false, .int .u32 cb, .int .u32 ct, .int .u32 ca, .int .u16 cp, .int .u16 (unsealY ka ztg zb zt za zp zy)]) ⟨htab.later (ba d8 (.cells (#[.bool false, .int .u32 cb, .int .u32 ct, .int .u32 ca, .int .u16 cp, .int .u16 (unsealY ka ztg zb zt za zp zy)] : Array Value) 25)), (ba d8 (.cells (#[.bool false, .int .u32 cb, .int .u32 ct, .int .u32 ca, .int .u16 cp, .int .u16 (unsealY ka ztg zb zt za zp zy)] : Array Value) 25)), (Xc8.alloc (.cells (#[.bool false, .int .u32 cb, .int .u32 ct, .int .u32 ca, .int .u16 cp, .int .u16 (unsealY ka ztg zb zt za zp zy)] : Array Value) 25)), (Xk8.alloc (.cells (#[.bool false, .int .u32 cb, .int .u32 ct, .int .u32 ca, .int .u16 cp, .int .u16 (unsealY ka ztg zb zt za zp zy)] : Array Value) 25)), (Xz8.alloc (.cells (#[.bool false, .int .u32 cb, .int .u32 ct, .int .u32 ca, .int .u16 cp, .int .u16 (unsealY ka ztg zb zt za zp zy)] : Array Value) 25)), (Xs8.alloc (.cells (#[.bool false, .int .u32 cb, .int .u32 ct, .int .u32 ca, .int .u16 cp, .int .u16 (unsealY ka ztg zb zt za zp zy)] : Array Value) 25)), (Box.new w8 (#[.bool false, .int .u32 cb, .int .u32 ct, .int .u32 ca, .int .u16 cp, .int .u16 (unsealY ka ztg zb zt za zp zy)] : Array Value) 25)⟩ ?_
          rintro W ⟨T, D, Yc, Yk, Yz, Ys, Yu⟩
          have Cc := Yc.at_
          have Ck := Yk.at_
          have Cz := Yz.at_
          have Cs := Ys.at_
          have Cu := Yu.at_
          repeat (go_big_quiet_step (first | (go_at_call 20; exact Later.call (unseal_v _ _ _ _ _ _ _ _ _ _ _ _ _ (by assumption) (by assumption) (by assumption) (by assumption)))))
          refine wpQuiet_nil ?_
          rintro _ ⟨u, rfl⟩
          go_wp2
          go_ret
          exact ⟨rfl, bt D u.below⟩
  · go_enter Tryd.func10, Tryd.ntmps10
    go_wp2_with fail
    ((with_reducible refine (known_c _ (htab.later (ba (ba (ba (b0 w) (.cells (#[.bool ctg, .int .u32 cb, .int .u32 ct, .int .u32 ca, .int .u16 cp, .int .u16 cy] : Array Value) 25)) (.cells (#[.bool ktg, .int .u32 kb, .int .u32 kt, .int .u32 ka, .int .u16 kp, .int .u16 ky] : Array Value) 25)) (.cells (#[.bool ztg, .int .u32 zb, .int .u32 zt, .int .u32 za, .int .u16 zp, .int .u16 zy] : Array Value) 25)))).mono ?_); rintro e w1 ⟨rfl, hb1⟩)
    have d1 := bt (ba (ba (ba (b0 w) (.cells (#[.bool ctg, .int .u32 cb, .int .u32 ct, .int .u32 ca, .int .u16 cp, .int .u16 cy] : Array Value) 25)) (.cells (#[.bool ktg, .int .u32 kb, .int .u32 kt, .int .u32 ka, .int .u16 kp, .int .u16 ky] : Array Value) 25)) (.cells (#[.bool ztg, .int .u32 zb, .int .u32 zt, .int .u32 za, .int .u16 zp, .int .u16 zy] : Array Value) 25)) hb1
    have Xc1 := ((Box.alloc ((Box.alloc (Box.new_at w (#[.bool ctg, .int .u32 cb, .int .u32 ct, .int .u32 ca, .int .u16 cp, .int .u16 cy] : Array Value) 25 (w.heap.size) (by first | rfl | (simp; done) | (simp; omega))) (.cells (#[.bool ktg, .int .u32 kb, .int .u32 kt, .int .u32 ka, .int .u16 kp, .int .u16 ky] : Array Value) 25))) (.cells (#[.bool ztg, .int .u32 zb, .int .u32 zt, .int .u32 za, .int .u16 zp, .int .u16 zy] : Array Value) 25))).later hb1
    have kc1 := Xc1.2
    have lc1 := Xc1.1
    have Xk1 := ((Box.alloc (Box.new_at (w.alloc (.cells #[.bool ctg, .int .u32 cb, .int .u32 ct, .int .u32 ca, .int .u16 cp, .int .u16 cy] 25)) (#[.bool ktg, .int .u32 kb, .int .u32 kt, .int .u32 ka, .int .u16 kp, .int .u16 ky] : Array Value) 25 (w.heap.size + 1) (by first | rfl | (simp; done) | (simp; omega))) (.cells (#[.bool ztg, .int .u32 zb, .int .u32 zt, .int .u32 za, .int .u16 zp, .int .u16 zy] : Array Value) 25))).later hb1
    have kk1 := Xk1.2
    have lk1 := Xk1.1
    have Xz1 := (Box.new_at ((w.alloc (.cells #[.bool ctg, .int .u32 cb, .int .u32 ct, .int .u32 ca, .int .u16 cp, .int .u16 cy] 25)).alloc (.cells #[.bool ktg, .int .u32 kb, .int .u32 kt, .int .u32 ka, .int .u16 kp, .int .u16 ky] 25)) (#[.bool ztg, .int .u32 zb, .int .u32 zt, .int .u32 za, .int .u16 zp, .int .u16 zy] : Array Value) 25 (w.heap.size + 2) (by first | rfl | (simp; done) | (simp; omega))).later hb1
    have kz1 := Xz1.2
    have lz1 := Xz1.1
    go_wp2_with fail
    ((with_reducible refine (seal_no ctg cb ct ca cp cy ktg kb kt ka kp ky _ hkt hka hs).mono ?_); rintro e w2 ⟨rfl, hb2⟩)
    have d2 := bt d1 hb2
    have Xc2 := Xc1.later hb2
    have kc2 := Xc2.2
    have lc2 := Xc2.1
    have Xk2 := Xk1.later hb2
    have kk2 := Xk2.2
    have lk2 := Xk2.1
    have Xz2 := Xz1.later hb2
    have kz2 := Xz2.2
    have lz2 := Xz2.1
    go_wp2
    go_ret
    exact ⟨rfl, (ba d2 (.cells (#[.bool false, .int .u32 cb, .int .u32 ct, .int .u32 ca, .int .u16 cp, .int .u16 cy] : Array Value) 25))⟩

/-! ### The row -/
set_option maxRecDepth 100000 in
theorem contract (H : Type) (enc : TypeId × Value → H) (W : World) (base : Nat) (args : Array Value) (ds gs : List (DataW H)) (before : List MemPlace)
    (hval : ∀ (j : Nat) t v, Tryd.f10.params[j]? = some t → args[j]? = some v → Value.okWide Tryd.prog W .any base t v)
    (hW : DataW.Whole enc Tryd.prog Tryd.f10.params.toList Rows.capClosedSpec.vars false W args.toList ds gs before) (hL : laidMetH Tryd.prog Rows.capClosedRow.laid W) :
    Calls Tryd.prog 10 args W fun e W' => ∃ v, e = .returned v ∧ Rows.capClosedSpec.post enc Tryd.prog Tryd.f10 false true false false W args v W' := by
  have hW' := hW
  obtain ⟨p, q, hA0, hV, rfl, hfz, hnd⟩ := hW
  have hA : DataW.TrodAll enc Tryd.prog W 0 (fun _ => true) true Tryd.f10.params.toList args.toList ds p := hA0
  rw [Tryd.params10] at hA hval
  obtain ⟨v0, vs0, d0, ds0, p0, q0, hargs, rfl, rfl, h0, r0⟩ := trodAll_cons hA
  obtain ⟨v1, vs1, d1, ds1, p1, q1, rfl, rfl, rfl, h1, r1⟩ := trodAll_cons r0
  obtain ⟨v2, vs2, d2, ds2, p2, q2, rfl, rfl, rfl, h2, r2⟩ := trodAll_cons r1
  obtain ⟨v3, vs3, d3, ds3, p3, q3, rfl, rfl, rfl, h3, r3⟩ := trodAll_cons r2
  obtain ⟨rfl, rfl, rfl⟩ := trodAll_nil r3
  obtain rfl : args = #[v0, v1, v2, v3] := by cases args; simp_all
  obtain ⟨rfl, rfl⟩ := trodVars_none hV
  have k0 := h0
  have l0 : ∀ x ∈ p0, x.block < W.heap.size := by obtain ⟨m, hm⟩ := k0; exact DataW.trod_lt m _ _ _ hm
  obtain ⟨ctg, cb, ct, ca, cp, cy, rfl, hcb, hct, hca, hcp, hcy⟩ := open_cap (hval 0 25 v0 rfl rfl) h0
  have k1 := h1
  have l1 : ∀ x ∈ p1, x.block < W.heap.size := by obtain ⟨m, hm⟩ := k1; exact DataW.trod_lt m _ _ _ hm
  obtain ⟨ktg, kb, kt, ka, kp, ky, rfl, hkb, hkt, hka, hkp, hky⟩ := open_cap (hval 1 25 v1 rfl rfl) h1
  have k2 := h2
  have l2 : ∀ x ∈ p2, x.block < W.heap.size := by obtain ⟨m, hm⟩ := k2; exact DataW.trod_lt m _ _ _ hm
  obtain ⟨ztg, zb, zt, za, zp, zy, rfl, hzb, hzt, hza, hzp, hzy⟩ := open_cap (hval 2 25 v2 rfl rfl) h2
  have k3 := h3
  have l3 : ∀ x ∈ p3, x.block < W.heap.size := by obtain ⟨m, hm⟩ := k3; exact DataW.trod_lt m _ _ _ hm
  obtain ⟨x, rfl, -, -, w3⟩ := open_int Tryd.underlying22 (hval 3 22 v3 rfl rfl) h3
  have hx : U32 x := bounds_u32 w3
  clear hA0
  refine (walk ctg cb ct ca cp cy ktg kb kt ka kp ky ztg zb zt za zp zy x W (tab_of hL) hcb hct hca hcp hcy hkb hkt hka hkp hky hzb hzt hza hzp hzy hx).mono fun e W' ⟨he, bel⟩ => ?_
  subst he
  exact ⟨_, rfl, _, _, _, [], _, [], hW', trodAll_mk1 (shut_bool Tryd.underlying4 _), (trodAll_cons_mk (Below.trod laidOut (by kernel_rfl) (of_decide_eq_true (by kernel_rfl)) k0 bel l0) (trodAll_cons_mk (Below.trod laidOut (by kernel_rfl) (of_decide_eq_true (by kernel_rfl)) k1 bel l1) (trodAll_cons_mk (Below.trod laidOut (by kernel_rfl) (of_decide_eq_true (by kernel_rfl)) k2 bel l2) (trodAll_cons_mk (Below.trod laidOut (by kernel_rfl) (of_decide_eq_true (by kernel_rfl)) k3 bel l3) trodAll_mk0)))), rfl, bel.frame _, fun h => by cases h⟩

theorem laid_met (os : Os) : laidMet Tryd.prog Rows.capClosedRow.laid ((laidWorld os).forCall (fun _ _ => 0) ⟨#[], #[.agg #[.bool false, .int .u32 0, .int .u32 0, .int .u32 0, .int .u16 0, .int .u16 0], .agg #[.bool false, .int .u32 0, .int .u32 0, .int .u32 0, .int .u16 0, .int .u16 0], .agg #[.bool false, .int .u32 0, .int .u32 0, .int .u32 0, .int .u16 0, .int .u16 0], .int .u32 0], []⟩).memory :=
  laidMet_of_run' 8 (by kernel_rfl) (by kernel_rfl)
theorem reads (os : Os) {H : Type} (enc : TypeId × Value → H) : ∃ places, DataW.whole enc Tryd.prog ((laidWorld os).forCall (fun _ _ => 0) ⟨#[], #[.agg #[.bool false, .int .u32 0, .int .u32 0, .int .u32 0, .int .u16 0, .int .u16 0], .agg #[.bool false, .int .u32 0, .int .u32 0, .int .u32 0, .int .u16 0, .int .u16 0], .agg #[.bool false, .int .u32 0, .int .u32 0, .int .u32 0, .int .u16 0, .int .u16 0], .int .u32 0], []⟩).memory Tryd.f10.params.toList Rows.capClosedSpec.vars false (#[.agg #[.bool false, .int .u32 0, .int .u32 0, .int .u32 0, .int .u16 0, .int .u16 0], .agg #[.bool false, .int .u32 0, .int .u32 0, .int .u32 0, .int .u16 0, .int .u16 0], .agg #[.bool false, .int .u32 0, .int .u32 0, .int .u32 0, .int .u16 0, .int .u16 0], .int .u32 0] : Array Value).toList 8 = some ([.agg [.lit (.bool false), .lit (.int .u32 0), .lit (.int .u32 0), .lit (.int .u32 0), .lit (.int .u16 0), .lit (.int .u16 0)], .agg [.lit (.bool false), .lit (.int .u32 0), .lit (.int .u32 0), .lit (.int .u32 0), .lit (.int .u16 0), .lit (.int .u16 0)], .agg [.lit (.bool false), .lit (.int .u32 0), .lit (.int .u32 0), .lit (.int .u32 0), .lit (.int .u16 0), .lit (.int .u16 0)], .lit (.int .u32 0)], [], places) :=
  ⟨[], by kernel_rfl⟩

set_option maxRecDepth 100000 in
theorem lifted (os : Os) (started : os.Started) (H : Type) (enc : TypeId × Value → H) (F : Stop.Interp) :
    ReturnsInHanded {} Tryd.checked os 10 .any ((OpenSpec.ofChange Rows.capClosedSpec).preRow enc Tryd.prog Tryd.f10 Rows.capClosedRow.domain false Rows.capClosedRow.laid) (((OpenSpec.ofChange Rows.capClosedSpec).at F).post enc Tryd.prog Tryd.f10 false true false false) := by
  obtain ⟨places, hx⟩ := reads os enc
  refine returnsInHanded_of_row (C := Tryd.checked) (s := OpenSpec.ofChange Rows.capClosedSpec) own started (by kernel_rfl) Tryd.func10
    (witness_row_at (enc := enc) (C := Tryd.checked) false (laidWorld os) #[.agg #[.bool false, .int .u32 0, .int .u32 0, .int .u32 0, .int .u16 0, .int .u16 0], .agg #[.bool false, .int .u32 0, .int .u32 0, .int .u32 0, .int .u16 0, .int .u16 0], .agg #[.bool false, .int .u32 0, .int .u32 0, .int .u32 0, .int .u16 0, .int .u16 0], .int .u32 0] rfl (by kernel_rfl) (by kernel_rfl) (by kernel_rfl)
      (OpenSpec.preRow_of_cond 8 hx (by kernel_rfl) (fun k hk => by cases hk) (by kernel_rfl) (laid_met os))) ?_
  intro W base args ds gs before hval hW _ _ _ hL _ _
  exact contract H enc W base args ds gs before hval hW hL

theorem said : Rows.CapClosedSaid :=
  OpenClaim.holds_of_cond 10 Tryd.f10 rfl rfl rfl rfl rfl rfl rfl ⟨rfl, rfl, rfl, rfl, rfl⟩ rfl rfl rfl rfl rfl (by kernel_rfl) Tryd.func10 (by kernel_rfl)
    (of_decide_eq_true (by kernel_rfl)) (by unfold Func.isWrapper; first | (rw [if_pos (by decide +kernel)]; kernel_rfl) | (rw [if_neg (by decide +kernel)]; exact ⟨rfl, rfl⟩))
    (fun os started H enc _ F => by rw [OpenClaim.pre_eq_preRow]; exact lifted os started H enc F)

theorem plain (f : FuncId) (fn : Func) (hf : Tryd.pinned.checked.prog.funcNamed "hasp/hasplaw2.CapClosed" = some f) (hfn : Tryd.pinned.checked.prog.funcs[f]? = some fn) :
    false = Tryd.pinned.checked.prog.looks [] ∧ ∀ (j : Nat) t, fn.params[j]? = some t → Tryd.pinned.checked.prog.wantsStandIn t = false := by
  obtain rfl : f = 10 := Option.some.inj ((show Tryd.prog.funcNamed "hasp/hasplaw2.CapClosed" = some 10 by kernel_rfl).symm.trans hf) |>.symm
  obtain rfl : fn = Tryd.f10 := (Option.some.inj (Tryd.func10.symm.trans hfn)).symm
  refine ⟨by kernel_rfl, fun j t ht => ?_⟩
  rw [Tryd.params10] at ht
  have hm := Array.mem_of_getElem? ht
  simp only [List.mem_toArray, List.mem_cons, List.not_mem_nil, or_false] at hm
  rcases hm with rfl | rfl | rfl | rfl
  · exact (show Tryd.prog.wantsStandIn 25 = false by kernel_rfl)
  · exact (show Tryd.prog.wantsStandIn 25 = false by kernel_rfl)
  · exact (show Tryd.prog.wantsStandIn 25 = false by kernel_rfl)
  · exact (show Tryd.prog.wantsStandIn 22 = false by kernel_rfl)

/-- The card. -/
theorem card : Rows.CapClosedCardSaid :=
  Claim7.holds_tied_plain_at .later [] _ _ _ _ said (fun _ h => by cases h) (by kernel_rfl) (fun _ h => by cases h) capClosed_row_tie rfl ⟨rfl, rfl⟩ (by kernel_rfl) rfl plain (by kernel_rfl)
end Go.Proofs.YtfhmkmbdfeoegaaDoor.lawCapClosed
