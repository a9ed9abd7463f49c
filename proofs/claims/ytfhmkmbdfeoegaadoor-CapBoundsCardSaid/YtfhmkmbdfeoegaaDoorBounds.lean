/- Bounds are taken just where they lie within, and then they are what was asked: the law answers true and leaves its arguments alone. No condition beyond the row's own. -/
import Derived.Test.YtfhmkmbdfeoegaaDoorCards
import Derived.Test.YtfhmkmbdfeoegaaDoorTie
import Derived.Test.YtfhmkmbdfeoegaaDoorM
import Derived.Test.YtfhmkmbdfeoegaaDoorS
import Derived.Deep.DeepHandedRow
namespace Go.Proofs.YtfhmkmbdfeoegaaDoor.lawCapBounds
open Go.ChangeShapes Go.WideShapes Go.ChangeAt Go.RowKit
set_option linter.unusedVariables false
set_option linter.unusedSimpArgs false

theorem rsub_v (tg : Bool) (b t a p y : Int) (ktg : Bool) (kb kt ka kp ky : Int) (r : Bool) (w : World) (h : subB b t p kb kt kp = r) :
    Calls Tryd.prog 36 #[.agg #[.bool tg, .int .u32 b, .int .u32 t, .int .u32 a, .int .u16 p, .int .u16 y], .agg #[.bool ktg, .int .u32 kb, .int .u32 kt, .int .u32 ka, .int .u16 kp, .int .u16 ky]] w fun e w' =>
      e = .returned (.bool r) ∧ Below w.heap.size w w' := by
  rw [← h]
  exact rsub_c tg b t a p y ktg kb kt ka kp ky w

set_option maxHeartbeats 1000000 in
theorem walk (ctg : Bool) (cb ct ca cp cy : Int) (x : Int) (n : Int) (w : World) (htab : Tab w) (hcb : U32 cb) (hct : U32 ct) (hca : U32 ca) (hcp : U16 cp) (hcy : U16 cy) (hx : U32 x) (hn : U32 n) :
    Calls Tryd.prog 11 #[.agg #[.bool ctg, .int .u32 cb, .int .u32 ct, .int .u32 ca, .int .u16 cp, .int .u16 cy], .int .u32 x, .int .u32 n] w fun e w' => e = .returned (.bool true) ∧ Below w.heap.size w w' := by
  have x0 := hx.1
  have x1 := hx.2
  have n0 := hn.1
  have n1 := hn.2
  have t0 := hct.1
  have t1 := hct.2
  cases ctg
  · go_enter Tryd.func11, Tryd.ntmps11
    go_wp2_with fail
    ((with_reducible refine (known_c _ (htab.later (ba (b0 w) (.cells (#[.bool false, .int .u32 cb, .int .u32 ct, .int .u32 ca, .int .u16 cp, .int .u16 cy] : Array Value) 25)))).mono ?_); rintro e w1 ⟨rfl, hb1⟩)
    have d1 := bt (ba (b0 w) (.cells (#[.bool false, .int .u32 cb, .int .u32 ct, .int .u32 ca, .int .u16 cp, .int .u16 cy] : Array Value) 25)) hb1
    have Xc1 := (Box.new_at w (#[.bool false, .int .u32 cb, .int .u32 ct, .int .u32 ca, .int .u16 cp, .int .u16 cy] : Array Value) 25 (w.heap.size) (by first | rfl | (simp; done) | (simp; omega))).later hb1
    have kc1 := Xc1.2
    have lc1 := Xc1.1
    go_wp2
    go_ret
    exact ⟨rfl, d1⟩
  · rcases Bool.eq_false_or_eq_true (cy == 0) with g | g
    · have g' : (cy != 0) = false := by simpa using g
      by_cases h1 : cb ≤ x
      · by_cases h2 : x + n ≤ ct
        · have eh : hasB cb ct x n = true := by simp [hasB, h1, h2]
          have ew : (x + n) % 4294967296 = x + n := by omega
          have es : subB x (x + n) cp cb ct cp = true := (subB_iff hcp hcp).2 ⟨h1, h2, fun _ h => h⟩
          go_enter Tryd.func11, Tryd.ntmps11
          go_wp2_with fail
          ((with_reducible refine (known_c _ (htab.later (ba (b0 w) (.cells (#[.bool true, .int .u32 cb, .int .u32 ct, .int .u32 ca, .int .u16 cp, .int .u16 cy] : Array Value) 25)))).mono ?_); rintro e w1 ⟨rfl, hb1⟩)
          have d1 := bt (ba (b0 w) (.cells (#[.bool true, .int .u32 cb, .int .u32 ct, .int .u32 ca, .int .u16 cp, .int .u16 cy] : Array Value) 25)) hb1
          have Xc1 := (Box.new_at w (#[.bool true, .int .u32 cb, .int .u32 ct, .int .u32 ca, .int .u16 cp, .int .u16 cy] : Array Value) 25 (w.heap.size) (by first | rfl | (simp; done) | (simp; omega))).later hb1
          have kc1 := Xc1.2
          have lc1 := Xc1.1
          go_wp2_with fail
          ((with_reducible refine (setAddr_c true cb ct ca cp cy x _).mono ?_); rintro e w2 ⟨rfl, hb2⟩)
          have d2 := bt d1 hb2
          have Xc2 := Xc1.later hb2
          have kc2 := Xc2.2
          have lc2 := Xc2.1
          go_wp2_with fail
          ((with_reducible refine (bounds_c true cb ct x cp cy n _ hct hx hn).mono ?_); rintro e w3 ⟨rfl, hb3⟩)
          have d3 := bt d2 hb3
          have Xc3 := Xc2.later hb3
          have kc3 := Xc3.2
          have lc3 := Xc3.1
          go_upto_region 7 with (fail)
          try simp only [List.append_eq, List.cons_append, List.nil_append]
          refine reg_draw (by kernel_rfl) (by kernel_rfl) (fun W => Tab W ∧ Below w.heap.size w W ∧ Box W (w.heap.size) #[.bool true, .int .u32 cb, .int .u32 ct, .int .u32 ca, .int .u16 cp, .int .u16 cy] ∧ Box W (w3.heap.size) #[.bool true, .int .u32 x, .int .u32 (x + n), .int .u32 x, .int .u16 cp, .int .u16 cy]) ⟨htab.later (ba d3 (.cells (#[.bool true, .int .u32 x, .int .u32 (x + n), .int .u32 x, .int .u16 cp, .int .u16 cy] : Array Value) 25)), (ba d3 (.cells (#[.bool true, .int .u32 x, .int .u32 (x + n), .int .u32 x, .int .u16 cp, .int .u16 cy] : Array Value) 25)), (Xc3.alloc (.cells (#[.bool true, .int .u32 x, .int .u32 (x + n), .int .u32 x, .int .u16 cp, .int .u16 cy] : Array Value) 25)), (Box.new w3 (#[.bool true, .int .u32 x, .int .u32 (x + n), .int .u32 x, .int .u16 cp, .int .u16 cy] : Array Value) 25)⟩ ?_
          rintro W ⟨T, D, Yc, Yd⟩
          have Cc := Yc.at_
          have Cd := Yd.at_
          repeat (go_big_quiet_step (first | (go_at_call 23; exact Later.call (of_c _ _ _ _ _ _ _)) | (go_at_call 36; exact Later.call (rsub_v _ _ _ _ _ _ _ _ _ _ _ _ _ _ (by assumption)))))
          refine wpQuiet_nil ?_
          rintro _ ⟨u, rfl⟩
          go_wp2
          go_ret
          exact ⟨rfl, bt D u.below⟩
        · have eh : hasB cb ct x n = false := by simp [hasB]; omega
          have hd : decide (x + n ≤ ct) = false := decide_eq_false h2
          go_enter Tryd.func11, Tryd.ntmps11
          go_wp2_with fail
          ((with_reducible refine (known_c _ (htab.later (ba (b0 w) (.cells (#[.bool true, .int .u32 cb, .int .u32 ct, .int .u32 ca, .int .u16 cp, .int .u16 cy] : Array Value) 25)))).mono ?_); rintro e w1 ⟨rfl, hb1⟩)
          have d1 := bt (ba (b0 w) (.cells (#[.bool true, .int .u32 cb, .int .u32 ct, .int .u32 ca, .int .u16 cp, .int .u16 cy] : Array Value) 25)) hb1
          have Xc1 := (Box.new_at w (#[.bool true, .int .u32 cb, .int .u32 ct, .int .u32 ca, .int .u16 cp, .int .u16 cy] : Array Value) 25 (w.heap.size) (by first | rfl | (simp; done) | (simp; omega))).later hb1
          have kc1 := Xc1.2
          have lc1 := Xc1.1
          go_wp2_with fail
          ((with_reducible refine (setAddr_c true cb ct ca cp cy x _).mono ?_); rintro e w2 ⟨rfl, hb2⟩)
          have d2 := bt d1 hb2
          have Xc2 := Xc1.later hb2
          have kc2 := Xc2.2
          have lc2 := Xc2.1
          go_wp2_with fail
          ((with_reducible refine (bounds_c true cb ct x cp cy n _ hct hx hn).mono ?_); rintro e w3 ⟨rfl, hb3⟩)
          have d3 := bt d2 hb3
          have Xc3 := Xc2.later hb3
          have kc3 := Xc3.2
          have lc3 := Xc3.1
          go_upto_region 7 with (fail)
          try simp only [List.append_eq, List.cons_append, List.nil_append]
          refine reg_draw (by kernel_rfl) (by kernel_rfl) (fun W => Tab W ∧ Below w.heap.size w W ∧ Box W (w.heap.size) #[.bool true, .int .u32 cb, .int .u32 ct, .int .u32 ca, .int .u16 cp, .int .u16 cy] ∧ Box W (w3.heap.size) #[.bool false, .int .u32 x, .int .u32 ((x + n) % 4294967296), .int .u32 x, .int .u16 cp, .int .u16 cy]) ⟨htab.later (ba d3 (.cells (#[.bool false, .int .u32 x, .int .u32 ((x + n) % 4294967296), .int .u32 x, .int .u16 cp, .int .u16 cy] : Array Value) 25)), (ba d3 (.cells (#[.bool false, .int .u32 x, .int .u32 ((x + n) % 4294967296), .int .u32 x, .int .u16 cp, .int .u16 cy] : Array Value) 25)), (Xc3.alloc (.cells (#[.bool false, .int .u32 x, .int .u32 ((x + n) % 4294967296), .int .u32 x, .int .u16 cp, .int .u16 cy] : Array Value) 25)), (Box.new w3 (#[.bool false, .int .u32 x, .int .u32 ((x + n) % 4294967296), .int .u32 x, .int .u16 cp, .int .u16 cy] : Array Value) 25)⟩ ?_
          rintro W ⟨T, D, Yc, Yd⟩
          have Cc := Yc.at_
          have Cd := Yd.at_
          repeat (go_big_quiet_step (first | (go_at_call 23; exact Later.call (of_c _ _ _ _ _ _ _)) | (go_at_call 36; exact Later.call (rsub_v _ _ _ _ _ _ _ _ _ _ _ _ _ _ (by assumption)))))
          refine wpQuiet_nil ?_
          rintro _ ⟨u, rfl⟩
          go_wp2
          go_ret
          exact ⟨rfl, bt D u.below⟩
      · have eh : hasB cb ct x n = false := by simp [hasB]; omega
        go_enter Tryd.func11, Tryd.ntmps11
        go_wp2_with fail
        ((with_reducible refine (known_c _ (htab.later (ba (b0 w) (.cells (#[.bool true, .int .u32 cb, .int .u32 ct, .int .u32 ca, .int .u16 cp, .int .u16 cy] : Array Value) 25)))).mono ?_); rintro e w1 ⟨rfl, hb1⟩)
        have d1 := bt (ba (b0 w) (.cells (#[.bool true, .int .u32 cb, .int .u32 ct, .int .u32 ca, .int .u16 cp, .int .u16 cy] : Array Value) 25)) hb1
        have Xc1 := (Box.new_at w (#[.bool true, .int .u32 cb, .int .u32 ct, .int .u32 ca, .int .u16 cp, .int .u16 cy] : Array Value) 25 (w.heap.size) (by first | rfl | (simp; done) | (simp; omega))).later hb1
        have kc1 := Xc1.2
        have lc1 := Xc1.1
        go_wp2_with fail
        ((with_reducible refine (setAddr_c true cb ct ca cp cy x _).mono ?_); rintro e w2 ⟨rfl, hb2⟩)
        have d2 := bt d1 hb2
        have Xc2 := Xc1.later hb2
        have kc2 := Xc2.2
        have lc2 := Xc2.1
        go_wp2_with fail
        ((with_reducible refine (bounds_c true cb ct x cp cy n _ hct hx hn).mono ?_); rintro e w3 ⟨rfl, hb3⟩)
        have d3 := bt d2 hb3
        have Xc3 := Xc2.later hb3
        have kc3 := Xc3.2
        have lc3 := Xc3.1
        go_upto_region 7 with (fail)
        try simp only [List.append_eq, List.cons_append, List.nil_append]
        refine reg_draw (by kernel_rfl) (by kernel_rfl) (fun W => Tab W ∧ Below w.heap.size w W ∧ Box W (w.heap.size) #[.bool true, .int .u32 cb, .int .u32 ct, .int .u32 ca, .int .u16 cp, .int .u16 cy] ∧ Box W (w3.heap.size) #[.bool false, .int .u32 x, .int .u32 ((x + n) % 4294967296), .int .u32 x, .int .u16 cp, .int .u16 cy]) ⟨htab.later (ba d3 (.cells (#[.bool false, .int .u32 x, .int .u32 ((x + n) % 4294967296), .int .u32 x, .int .u16 cp, .int .u16 cy] : Array Value) 25)), (ba d3 (.cells (#[.bool false, .int .u32 x, .int .u32 ((x + n) % 4294967296), .int .u32 x, .int .u16 cp, .int .u16 cy] : Array Value) 25)), (Xc3.alloc (.cells (#[.bool false, .int .u32 x, .int .u32 ((x + n) % 4294967296), .int .u32 x, .int .u16 cp, .int .u16 cy] : Array Value) 25)), (Box.new w3 (#[.bool false, .int .u32 x, .int .u32 ((x + n) % 4294967296), .int .u32 x, .int .u16 cp, .int .u16 cy] : Array Value) 25)⟩ ?_
        rintro W ⟨T, D, Yc, Yd⟩
        have Cc := Yc.at_
        have Cd := Yd.at_
        repeat (go_big_quiet_step (first | (go_at_call 23; exact Later.call (of_c _ _ _ _ _ _ _)) | (go_at_call 36; exact Later.call (rsub_v _ _ _ _ _ _ _ _ _ _ _ _ _ _ (by assumption)))))
        refine wpQuiet_nil ?_
        rintro _ ⟨u, rfl⟩
        go_wp2
        go_ret
        exact ⟨rfl, bt D u.below⟩
    · have g' : (cy != 0) = true := by simpa using g
      go_enter Tryd.func11, Tryd.ntmps11
      go_wp2_with fail
      ((with_reducible refine (known_c _ (htab.later (ba (b0 w) (.cells (#[.bool true, .int .u32 cb, .int .u32 ct, .int .u32 ca, .int .u16 cp, .int .u16 cy] : Array Value) 25)))).mono ?_); rintro e w1 ⟨rfl, hb1⟩)
      have d1 := bt (ba (b0 w) (.cells (#[.bool true, .int .u32 cb, .int .u32 ct, .int .u32 ca, .int .u16 cp, .int .u16 cy] : Array Value) 25)) hb1
      have Xc1 := (Box.new_at w (#[.bool true, .int .u32 cb, .int .u32 ct, .int .u32 ca, .int .u16 cp, .int .u16 cy] : Array Value) 25 (w.heap.size) (by first | rfl | (simp; done) | (simp; omega))).later hb1
      have kc1 := Xc1.2
      have lc1 := Xc1.1
      go_wp2
      go_ret
      exact ⟨rfl, d1⟩

/-! ### The row -/
set_option maxRecDepth 100000 in
theorem contract (H : Type) (enc : TypeId × Value → H) (W : World) (base : Nat) (args : Array Value) (ds gs : List (DataW H)) (before : List MemPlace)
    (hval : ∀ (j : Nat) t v, Tryd.f11.params[j]? = some t → args[j]? = some v → Value.okWide Tryd.prog W .any base t v)
    (hW : DataW.Whole enc Tryd.prog Tryd.f11.params.toList Rows.capBoundsSpec.vars false W args.toList ds gs before) (hL : laidMetH Tryd.prog Rows.capBoundsRow.laid W) :
    Calls Tryd.prog 11 args W fun e W' => ∃ v, e = .returned v ∧ Rows.capBoundsSpec.post enc Tryd.prog Tryd.f11 false true false false W args v W' := by
  have hW' := hW
  obtain ⟨p, q, hA0, hV, rfl, hfz, hnd⟩ := hW
  have hA : DataW.TrodAll enc Tryd.prog W 0 (fun _ => true) true Tryd.f11.params.toList args.toList ds p := hA0
  rw [Tryd.params11] at hA hval
  obtain ⟨v0, vs0, d0, ds0, p0, q0, hargs, rfl, rfl, h0, r0⟩ := trodAll_cons hA
  obtain ⟨v1, vs1, d1, ds1, p1, q1, rfl, rfl, rfl, h1, r1⟩ := trodAll_cons r0
  obtain ⟨v2, vs2, d2, ds2, p2, q2, rfl, rfl, rfl, h2, r2⟩ := trodAll_cons r1
  obtain ⟨rfl, rfl, rfl⟩ := trodAll_nil r2
  obtain rfl : args = #[v0, v1, v2] := by cases args; simp_all
  obtain ⟨rfl, rfl⟩ := trodVars_none hV
  have k0 := h0
  have l0 : ∀ x ∈ p0, x.block < W.heap.size := by obtain ⟨m, hm⟩ := k0; exact DataW.trod_lt m _ _ _ hm
  obtain ⟨ctg, cb, ct, ca, cp, cy, rfl, hcb, hct, hca, hcp, hcy⟩ := open_cap (hval 0 25 v0 rfl rfl) h0
  have k1 := h1
  have l1 : ∀ x ∈ p1, x.block < W.heap.size := by obtain ⟨m, hm⟩ := k1; exact DataW.trod_lt m _ _ _ hm
  obtain ⟨x, rfl, -, -, w1⟩ := open_int Tryd.underlying22 (hval 1 22 v1 rfl rfl) h1
  have hx : U32 x := bounds_u32 w1
  have k2 := h2
  have l2 : ∀ x ∈ p2, x.block < W.heap.size := by obtain ⟨m, hm⟩ := k2; exact DataW.trod_lt m _ _ _ hm
  obtain ⟨n, rfl, -, -, w2⟩ := open_int Tryd.underlying22 (hval 2 22 v2 rfl rfl) h2
  have hn : U32 n := bounds_u32 w2
  clear hA0
  refine (walk ctg cb ct ca cp cy x n W (tab_of hL) hcb hct hca hcp hcy hx hn).mono fun e W' ⟨he, bel⟩ => ?_
  subst he
  exact ⟨_, rfl, _, _, _, [], _, [], hW', trodAll_mk1 (shut_bool Tryd.underlying4 _), (trodAll_cons_mk (Below.trod laidOut (by kernel_rfl) (of_decide_eq_true (by kernel_rfl)) k0 bel l0) (trodAll_cons_mk (Below.trod laidOut (by kernel_rfl) (of_decide_eq_true (by kernel_rfl)) k1 bel l1) (trodAll_cons_mk (Below.trod laidOut (by kernel_rfl) (of_decide_eq_true (by kernel_rfl)) k2 bel l2) trodAll_mk0))), rfl, bel.frame _, fun h => by cases h⟩

theorem laid_met (os : Os) : laidMet Tryd.prog Rows.capBoundsRow.laid ((laidWorld os).forCall (fun _ _ => 0) ⟨#[], #[.agg #[.bool false, .int .u32 0, .int .u32 0, .int .u32 0, .int .u16 0, .int .u16 0], .int .u32 0, .int .u32 0], []⟩).memory :=
  laidMet_of_run' 8 (by kernel_rfl) (by kernel_rfl)
theorem reads (os : Os) {H : Type} (enc : TypeId × Value → H) : ∃ places, DataW.whole enc Tryd.prog ((laidWorld os).forCall (fun _ _ => 0) ⟨#[], #[.agg #[.bool false, .int .u32 0, .int .u32 0, .int .u32 0, .int .u16 0, .int .u16 0], .int .u32 0, .int .u32 0], []⟩).memory Tryd.f11.params.toList Rows.capBoundsSpec.vars false (#[.agg #[.bool false, .int .u32 0, .int .u32 0, .int .u32 0, .int .u16 0, .int .u16 0], .int .u32 0, .int .u32 0] : Array Value).toList 8 = some ([.agg [.lit (.bool false), .lit (.int .u32 0), .lit (.int .u32 0), .lit (.int .u32 0), .lit (.int .u16 0), .lit (.int .u16 0)], .lit (.int .u32 0), .lit (.int .u32 0)], [], places) :=
  ⟨[], by kernel_rfl⟩

set_option maxRecDepth 100000 in
theorem lifted (os : Os) (started : os.Started) (H : Type) (enc : TypeId × Value → H) (F : Stop.Interp) :
    ReturnsInHanded {} Tryd.checked os 11 .any ((OpenSpec.ofChange Rows.capBoundsSpec).preRow enc Tryd.prog Tryd.f11 Rows.capBoundsRow.domain false Rows.capBoundsRow.laid) (((OpenSpec.ofChange Rows.capBoundsSpec).at F).post enc Tryd.prog Tryd.f11 false true false false) := by
  obtain ⟨places, hx⟩ := reads os enc
  refine returnsInHanded_of_row (C := Tryd.checked) (s := OpenSpec.ofChange Rows.capBoundsSpec) own started (by kernel_rfl) Tryd.func11
    (witness_row_at (enc := enc) (C := Tryd.checked) false (laidWorld os) #[.agg #[.bool false, .int .u32 0, .int .u32 0, .int .u32 0, .int .u16 0, .int .u16 0], .int .u32 0, .int .u32 0] rfl (by kernel_rfl) (by kernel_rfl) (by kernel_rfl)
      (OpenSpec.preRow_of_cond 8 hx (by kernel_rfl) (fun k hk => by cases hk) (by kernel_rfl) (laid_met os))) ?_
  intro W base args ds gs before hval hW _ _ _ hL _ _
  exact contract H enc W base args ds gs before hval hW hL

theorem said : Rows.CapBoundsSaid :=
  OpenClaim.holds_of_cond 11 Tryd.f11 rfl rfl rfl rfl rfl rfl rfl ⟨rfl, rfl, rfl, rfl, rfl⟩ rfl rfl rfl rfl rfl (by kernel_rfl) Tryd.func11 (by kernel_rfl)
    (of_decide_eq_true (by kernel_rfl)) (by unfold Func.isWrapper; first | (rw [if_pos (by decide +kernel)]; kernel_rfl) | (rw [if_neg (by decide +kernel)]; exact ⟨rfl, rfl⟩))
    (fun os started H enc _ F => by rw [OpenClaim.pre_eq_preRow]; exact lifted os started H enc F)

theorem plain (f : FuncId) (fn : Func) (hf : Tryd.pinned.checked.prog.funcNamed "hasp/hasplaw2.CapBounds" = some f) (hfn : Tryd.pinned.checked.prog.funcs[f]? = some fn) :
    false = Tryd.pinned.checked.prog.looks [] ∧ ∀ (j : Nat) t, fn.params[j]? = some t → Tryd.pinned.checked.prog.wantsStandIn t = false := by
  obtain rfl : f = 11 := Option.some.inj ((show Tryd.prog.funcNamed "hasp/hasplaw2.CapBounds" = some 11 by kernel_rfl).symm.trans hf) |>.symm
  obtain rfl : fn = Tryd.f11 := (Option.some.inj (Tryd.func11.symm.trans hfn)).symm
  refine ⟨by kernel_rfl, fun j t ht => ?_⟩
  rw [Tryd.params11] at ht
  have hm := Array.mem_of_getElem? ht
  simp only [List.mem_toArray, List.mem_cons, List.not_mem_nil, or_false] at hm
  rcases hm with rfl | rfl | rfl
  · exact (show Tryd.prog.wantsStandIn 25 = false by kernel_rfl)
  · exact (show Tryd.prog.wantsStandIn 22 = false by kernel_rfl)
  · exact (show Tryd.prog.wantsStandIn 22 = false by kernel_rfl)

/-- The card. -/
theorem card : Rows.CapBoundsCardSaid :=
  Claim7.holds_tied_plain_at .later [] _ _ _ _ said (fun _ h => by cases h) (by kernel_rfl) (fun _ h => by cases h) capBounds_row_tie rfl ⟨rfl, rfl⟩ (by kernel_rfl) rfl plain (by kernel_rfl)
end Go.Proofs.YtfhmkmbdfeoegaaDoor.lawCapBounds
