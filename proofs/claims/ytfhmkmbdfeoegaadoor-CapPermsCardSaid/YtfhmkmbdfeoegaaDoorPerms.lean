/- Permissions that are taken away do not come back, in whichever order: the law answers true and leaves its arguments alone. No condition beyond the row's own. -/
import Derived.Test.YtfhmkmbdfeoegaaDoorCards
import Derived.Test.YtfhmkmbdfeoegaaDoorTie
import Derived.Test.YtfhmkmbdfeoegaaDoorM
import Derived.Test.YtfhmkmbdfeoegaaDoorS
import Derived.Deep.DeepHandedRow
namespace Go.Proofs.YtfhmkmbdfeoegaaDoor.lawCapPerms
open Go.ChangeShapes Go.WideShapes Go.ChangeAt Go.RowKit
set_option linter.unusedVariables false
set_option linter.unusedSimpArgs false

theorem and16_assoc {x y z : Int} (hx : U16 x) (hy : U16 y) (hz : U16 z) : bits .and .u16 x (bits .and .u16 y z) = bits .and .u16 (bits .and .u16 x y) z := by
  rw [and16 hx (and16_u hy hz), and16 (and16_u hx hy) hz, and16 hx hy, and16 hy hz]
  simp only [Int.toNat_natCast, Nat.and_assoc]
theorem and16_right {x y z : Int} (hx : U16 x) (hy : U16 y) (hz : U16 z) : bits .and .u16 (bits .and .u16 x z) y = bits .and .u16 (bits .and .u16 x y) z := by
  rw [and16 (and16_u hx hz) hy, and16 (and16_u hx hy) hz, and16 hx hy, and16 hx hz]
  simp only [Int.toNat_natCast, Nat.and_assoc, Nat.and_comm z.toNat]
theorem and16_all {x : Int} (hx : U16 x) : bits .and .u16 x 65535 = x := by
  rw [and16 hx ⟨by omega, by omega⟩]
  have h : x.toNat &&& (65535 : Int).toNat = x.toNat := by
    have e := Nat.and_two_pow_sub_one_eq_mod x.toNat 16
    rw [show (65535 : Int).toNat = 2 ^ 16 - 1 from rfl, e]
    exact Nat.mod_eq_of_lt (by have := hx.2; omega)
  rw [h]
  have := hx.1
  omega

set_option maxHeartbeats 1000000 in
theorem walk (ctg : Bool) (cb ct ca cp cy : Int) (x : Int) (z : Int) (w : World) (htab : Tab w) (hcb : U32 cb) (hct : U32 ct) (hca : U32 ca) (hcp : U16 cp) (hcy : U16 cy) (hx : U16 x) (hz : U16 z) :
    Calls Tryd.prog 12 #[.agg #[.bool ctg, .int .u32 cb, .int .u32 ct, .int .u32 ca, .int .u16 cp, .int .u16 cy], .int .u16 x, .int .u16 z] w fun e w' => e = .returned (.bool true) ∧ Below w.heap.size w w' := by
  have e1 : bits .and .u16 (bits .and .u16 cp z) x = bits .and .u16 (bits .and .u16 cp x) z := and16_right hcp hx hz
  have e2 : bits .and .u16 cp (bits .and .u16 x z) = bits .and .u16 (bits .and .u16 cp x) z := and16_assoc hcp hx hz
  have e3 : bits .and .u16 (bits .and .u16 (bits .and .u16 cp x) z) 65535 = bits .and .u16 (bits .and .u16 cp x) z := and16_all (and16_u (and16_u hcp hx) hz)
  rcases Bool.eq_false_or_eq_true (cy == 0) with g | g
  · go_enter Tryd.func12, Tryd.ntmps12
    go_wp2_with fail
    ((with_reducible refine (known_c _ (htab.later (ba (b0 w) (.cells (#[.bool ctg, .int .u32 cb, .int .u32 ct, .int .u32 ca, .int .u16 cp, .int .u16 cy] : Array Value) 25)))).mono ?_); rintro e w1 ⟨rfl, hb1⟩)
    have d1 := bt (ba (b0 w) (.cells (#[.bool ctg, .int .u32 cb, .int .u32 ct, .int .u32 ca, .int .u16 cp, .int .u16 cy] : Array Value) 25)) hb1
    have Xc1 := (Box.new_at w (#[.bool ctg, .int .u32 cb, .int .u32 ct, .int .u32 ca, .int .u16 cp, .int .u16 cy] : Array Value) 25 (w.heap.size) (by first | rfl | (simp; done) | (simp; omega))).later hb1
    have kc1 := Xc1.2
    have lc1 := Xc1.1
    go_wp2_with fail
    ((with_reducible refine (andPerm_c ctg cb ct ca cp cy x _).mono ?_); rintro e w2 ⟨rfl, hb2⟩)
    have d2 := bt d1 hb2
    have Xc2 := Xc1.later hb2
    have kc2 := Xc2.2
    have lc2 := Xc2.1
    go_wp2_with fail
    ((with_reducible refine (andPerm_c ctg cb ct ca (bits .and .u16 cp x) cy z _).mono ?_); rintro e w3 ⟨rfl, hb3⟩)
    have d3 := bt d2 hb3
    have Xc3 := Xc2.later hb3
    have kc3 := Xc3.2
    have lc3 := Xc3.1
    go_wp2_with fail
    ((with_reducible refine (andPerm_c ctg cb ct ca cp cy z _).mono ?_); rintro e w4 ⟨rfl, hb4⟩)
    have d4 := bt (ba d3 (.cells (#[.bool ctg, .int .u32 cb, .int .u32 ct, .int .u32 ca, .int .u16 (bits .and .u16 (bits .and .u16 cp x) z), .int .u16 cy] : Array Value) 25)) hb4
    have Xc4 := (Xc3.alloc (.cells (#[.bool ctg, .int .u32 cb, .int .u32 ct, .int .u32 ca, .int .u16 (bits .and .u16 (bits .and .u16 cp x) z), .int .u16 cy] : Array Value) 25)).later hb4
    have kc4 := Xc4.2
    have lc4 := Xc4.1
    have Xd4 := (Box.new w3 (#[.bool ctg, .int .u32 cb, .int .u32 ct, .int .u32 ca, .int .u16 (bits .and .u16 (bits .and .u16 cp x) z), .int .u16 cy] : Array Value) 25).later hb4
    have kd4 := Xd4.2
    have ld4 := Xd4.1
    go_wp2_with fail
    ((with_reducible refine (andPerm_c ctg cb ct ca (bits .and .u16 cp z) cy x _).mono ?_); rintro e w5 ⟨rfl, hb5⟩)
    have d5 := bt d4 hb5
    have Xc5 := Xc4.later hb5
    have kc5 := Xc5.2
    have lc5 := Xc5.1
    have Xd5 := Xd4.later hb5
    have kd5 := Xd5.2
    have ld5 := Xd5.1
    go_upto_region 5 with (fail)
    try simp only [List.append_eq, List.cons_append, List.nil_append]
    refine reg_draw (by kernel_rfl) (by kernel_rfl) (fun W => Tab W ∧ Below w.heap.size w W ∧ Box W (w.heap.size) #[.bool ctg, .int .u32 cb, .int .u32 ct, .int .u32 ca, .int .u16 cp, .int .u16 cy] ∧ Box W (w3.heap.size) #[.bool ctg, .int .u32 cb, .int .u32 ct, .int .u32 ca, .int .u16 (bits .and .u16 (bits .and .u16 cp x) z), .int .u16 cy] ∧ Box W (w5.heap.size) #[.bool ctg, .int .u32 cb, .int .u32 ct, .int .u32 ca, .int .u16 (bits .and .u16 (bits .and .u16 cp x) z), .int .u16 cy]) ⟨htab.later (ba d5 (.cells (#[.bool ctg, .int .u32 cb, .int .u32 ct, .int .u32 ca, .int .u16 (bits .and .u16 (bits .and .u16 cp x) z), .int .u16 cy] : Array Value) 25)), (ba d5 (.cells (#[.bool ctg, .int .u32 cb, .int .u32 ct, .int .u32 ca, .int .u16 (bits .and .u16 (bits .and .u16 cp x) z), .int .u16 cy] : Array Value) 25)), (Xc5.alloc (.cells (#[.bool ctg, .int .u32 cb, .int .u32 ct, .int .u32 ca, .int .u16 (bits .and .u16 (bits .and .u16 cp x) z), .int .u16 cy] : Array Value) 25)), (Xd5.alloc (.cells (#[.bool ctg, .int .u32 cb, .int .u32 ct, .int .u32 ca, .int .u16 (bits .and .u16 (bits .and .u16 cp x) z), .int .u16 cy] : Array Value) 25)), (Box.new w5 (#[.bool ctg, .int .u32 cb, .int .u32 ct, .int .u32 ca, .int .u16 (bits .and .u16 (bits .and .u16 cp x) z), .int .u16 cy] : Array Value) 25)⟩ ?_
    rintro W ⟨T, D, Yc, Yd, Ye⟩
    have Cc := Yc.at_
    have Cd := Yd.at_
    have Ce := Ye.at_
    repeat (go_big_quiet_step (first | (go_at_call 17; exact Later.call (andPerm_c _ _ _ _ _ _ _ _))))
    refine wpQuiet_nil ?_
    rintro _ ⟨u, rfl⟩
    go_wp2
    go_ret
    exact ⟨rfl, bt D u.below⟩
  · go_enter Tryd.func12, Tryd.ntmps12
    go_wp2_with fail
    ((with_reducible refine (known_c _ (htab.later (ba (b0 w) (.cells (#[.bool ctg, .int .u32 cb, .int .u32 ct, .int .u32 ca, .int .u16 cp, .int .u16 cy] : Array Value) 25)))).mono ?_); rintro e w1 ⟨rfl, hb1⟩)
    have d1 := bt (ba (b0 w) (.cells (#[.bool ctg, .int .u32 cb, .int .u32 ct, .int .u32 ca, .int .u16 cp, .int .u16 cy] : Array Value) 25)) hb1
    have Xc1 := (Box.new_at w (#[.bool ctg, .int .u32 cb, .int .u32 ct, .int .u32 ca, .int .u16 cp, .int .u16 cy] : Array Value) 25 (w.heap.size) (by first | rfl | (simp; done) | (simp; omega))).later hb1
    have kc1 := Xc1.2
    have lc1 := Xc1.1
    go_wp2_with fail
    ((with_reducible refine (andPerm_c ctg cb ct ca cp cy x _).mono ?_); rintro e w2 ⟨rfl, hb2⟩)
    have d2 := bt d1 hb2
    have Xc2 := Xc1.later hb2
    have kc2 := Xc2.2
    have lc2 := Xc2.1
    go_wp2_with fail
    ((with_reducible refine (andPerm_c false cb ct ca (bits .and .u16 cp x) cy z _).mono ?_); rintro e w3 ⟨rfl, hb3⟩)
    have d3 := bt d2 hb3
    have Xc3 := Xc2.later hb3
    have kc3 := Xc3.2
    have lc3 := Xc3.1
    go_wp2_with fail
    ((with_reducible refine (andPerm_c ctg cb ct ca cp cy z _).mono ?_); rintro e w4 ⟨rfl, hb4⟩)
    have d4 := bt (ba d3 (.cells (#[.bool false, .int .u32 cb, .int .u32 ct, .int .u32 ca, .int .u16 (bits .and .u16 (bits .and .u16 cp x) z), .int .u16 cy] : Array Value) 25)) hb4
    have Xc4 := (Xc3.alloc (.cells (#[.bool false, .int .u32 cb, .int .u32 ct, .int .u32 ca, .int .u16 (bits .and .u16 (bits .and .u16 cp x) z), .int .u16 cy] : Array Value) 25)).later hb4
    have kc4 := Xc4.2
    have lc4 := Xc4.1
    have Xd4 := (Box.new w3 (#[.bool false, .int .u32 cb, .int .u32 ct, .int .u32 ca, .int .u16 (bits .and .u16 (bits .and .u16 cp x) z), .int .u16 cy] : Array Value) 25).later hb4
    have kd4 := Xd4.2
    have ld4 := Xd4.1
    go_wp2_with fail
    ((with_reducible refine (andPerm_c false cb ct ca (bits .and .u16 cp z) cy x _).mono ?_); rintro e w5 ⟨rfl, hb5⟩)
    have d5 := bt d4 hb5
    have Xc5 := Xc4.later hb5
    have kc5 := Xc5.2
    have lc5 := Xc5.1
    have Xd5 := Xd4.later hb5
    have kd5 := Xd5.2
    have ld5 := Xd5.1
    go_upto_region 5 with (fail)
    try simp only [List.append_eq, List.cons_append, List.nil_append]
    refine reg_draw (by kernel_rfl) (by kernel_rfl) (fun W => Tab W ∧ Below w.heap.size w W ∧ Box W (w.heap.size) #[.bool ctg, .int .u32 cb, .int .u32 ct, .int .u32 ca, .int .u16 cp, .int .u16 cy] ∧ Box W (w3.heap.size) #[.bool false, .int .u32 cb, .int .u32 ct, .int .u32 ca, .int .u16 (bits .and .u16 (bits .and .u16 cp x) z), .int .u16 cy] ∧ Box W (w5.heap.size) #[.bool false, .int .u32 cb, .int .u32 ct, .int .u32 ca, .int .u16 (bits .and .u16 (bits .and .u16 cp x) z), .int .u16 cy]) ⟨htab.later (ba d5 (.cells (#[.bool false, .int .u32 cb, .int .u32 ct, .int .u32 ca, .int .u16 (bits .and .u16 (bits .and .u16 cp x) z), .int .u16 cy] : Array Value) 25)), (ba d5 (.cells (#[.bool false, .int .u32 cb, .int .u32 ct, .int .u32 ca, .int .u16 (bits .and .u16 (bits .and .u16 cp x) z), .int .u16 cy] : Array Value) 25)), (Xc5.alloc (.cells (#[.bool false, .int .u32 cb, .int .u32 ct, .int .u32 ca, .int .u16 (bits .and .u16 (bits .and .u16 cp x) z), .int .u16 cy] : Array Value) 25)), (Xd5.alloc (.cells (#[.bool false, .int .u32 cb, .int .u32 ct, .int .u32 ca, .int .u16 (bits .and .u16 (bits .and .u16 cp x) z), .int .u16 cy] : Array Value) 25)), (Box.new w5 (#[.bool false, .int .u32 cb, .int .u32 ct, .int .u32 ca, .int .u16 (bits .and .u16 (bits .and .u16 cp x) z), .int .u16 cy] : Array Value) 25)⟩ ?_
    rintro W ⟨T, D, Yc, Yd, Ye⟩
    have Cc := Yc.at_
    have Cd := Yd.at_
    have Ce := Ye.at_
    repeat (go_big_quiet_step (first | (go_at_call 17; exact Later.call (andPerm_c _ _ _ _ _ _ _ _))))
    refine wpQuiet_nil ?_
    rintro _ ⟨u, rfl⟩
    go_wp2
    go_ret
    exact ⟨rfl, bt D u.below⟩

/-! ### The row -/
set_option maxRecDepth 100000 in
theorem contract (H : Type) (enc : TypeId × Value → H) (W : World) (base : Nat) (args : Array Value) (ds gs : List (DataW H)) (before : List MemPlace)
    (hval : ∀ (j : Nat) t v, Tryd.f12.params[j]? = some t → args[j]? = some v → Value.okWide Tryd.prog W .any base t v)
    (hW : DataW.Whole enc Tryd.prog Tryd.f12.params.toList Rows.capPermsSpec.vars false W args.toList ds gs before) (hL : laidMetH Tryd.prog Rows.capPermsRow.laid W) :
    Calls Tryd.prog 12 args W fun e W' => ∃ v, e = .returned v ∧ Rows.capPermsSpec.post enc Tryd.prog Tryd.f12 false true false false W args v W' := by
  have hW' := hW
  obtain ⟨p, q, hA0, hV, rfl, hfz, hnd⟩ := hW
  have hA : DataW.TrodAll enc Tryd.prog W 0 (fun _ => true) true Tryd.f12.params.toList args.toList ds p := hA0
  rw [Tryd.params12] at hA hval
  obtain ⟨v0, vs0, d0, ds0, p0, q0, hargs, rfl, rfl, h0, r0⟩ := trodAll_cons hA
  obtain ⟨v1, vs1, d1, ds1, p1, q1, rfl, rfl, rfl, h1, r1⟩ := trodAll_cons r0
  obtain ⟨v2, vs2, d2, ds2, p2, q2, rfl, rfl, rfl, h2, r2⟩ := trodAll_cons r1
  obtain ⟨rfl, rfl, rfl⟩ := trodAll_nil r2
  obtain rfl : args = #[v0, v1, v2] := by cases args; simp_all
  obtain ⟨rfl, rfl⟩ := trodVars_none hV
  have k0 := h0
  have l0 : ∀ x ∈ p0, x.block < W.heap.size := by obtain ⟨m, hm⟩ := k0; exact DataW.trod_lt m _ _ _ hm
  obtain ⟨ctg, cb, ct, ca, cp, cy, rfl, hcb, hct, hca, hcp, hcy⟩ := open_cap (hval 0 25 v0 rfl rfl) h0
  have k1 := h1
  have l1 : ∀ x ∈ p1, x.block < W.heap.size := by obtain ⟨m, hm⟩ := k1; exact DataW.trod_lt m _ _ _ hm
  obtain ⟨x, rfl, -, -, w1⟩ := open_int Tryd.underlying23 (hval 1 23 v1 rfl rfl) h1
  have hx : U16 x := bounds_u16 w1
  have k2 := h2
  have l2 : ∀ x ∈ p2, x.block < W.heap.size := by obtain ⟨m, hm⟩ := k2; exact DataW.trod_lt m _ _ _ hm
  obtain ⟨z, rfl, -, -, w2⟩ := open_int Tryd.underlying23 (hval 2 23 v2 rfl rfl) h2
  have hz : U16 z := bounds_u16 w2
  clear hA0
  refine (walk ctg cb ct ca cp cy x z W (tab_of hL) hcb hct hca hcp hcy hx hz).mono fun e W' ⟨he, bel⟩ => ?_
  subst he
  exact ⟨_, rfl, _, _, _, [], _, [], hW', trodAll_mk1 (shut_bool Tryd.underlying4 _), (trodAll_cons_mk (Below.trod laidOut (by kernel_rfl) (of_decide_eq_true (by kernel_rfl)) k0 bel l0) (trodAll_cons_mk (Below.trod laidOut (by kernel_rfl) (of_decide_eq_true (by kernel_rfl)) k1 bel l1) (trodAll_cons_mk (Below.trod laidOut (by kernel_rfl) (of_decide_eq_true (by kernel_rfl)) k2 bel l2) trodAll_mk0))), rfl, bel.frame _, fun h => by cases h⟩

theorem laid_met (os : Os) : laidMet Tryd.prog Rows.capPermsRow.laid ((laidWorld os).forCall (fun _ _ => 0) ⟨#[], #[.agg #[.bool false, .int .u32 0, .int .u32 0, .int .u32 0, .int .u16 0, .int .u16 0], .int .u16 0, .int .u16 0], []⟩).memory :=
  laidMet_of_run' 8 (by kernel_rfl) (by kernel_rfl)
theorem reads (os : Os) {H : Type} (enc : TypeId × Value → H) : ∃ places, DataW.whole enc Tryd.prog ((laidWorld os).forCall (fun _ _ => 0) ⟨#[], #[.agg #[.bool false, .int .u32 0, .int .u32 0, .int .u32 0, .int .u16 0, .int .u16 0], .int .u16 0, .int .u16 0], []⟩).memory Tryd.f12.params.toList Rows.capPermsSpec.vars false (#[.agg #[.bool false, .int .u32 0, .int .u32 0, .int .u32 0, .int .u16 0, .int .u16 0], .int .u16 0, .int .u16 0] : Array Value).toList 8 = some ([.agg [.lit (.bool false), .lit (.int .u32 0), .lit (.int .u32 0), .lit (.int .u32 0), .lit (.int .u16 0), .lit (.int .u16 0)], .lit (.int .u16 0), .lit (.int .u16 0)], [], places) :=
  ⟨[], by kernel_rfl⟩

set_option maxRecDepth 100000 in
theorem lifted (os : Os) (started : os.Started) (H : Type) (enc : TypeId × Value → H) (F : Stop.Interp) :
    ReturnsInHanded {} Tryd.checked os 12 .any ((OpenSpec.ofChange Rows.capPermsSpec).preRow enc Tryd.prog Tryd.f12 Rows.capPermsRow.domain false Rows.capPermsRow.laid) (((OpenSpec.ofChange Rows.capPermsSpec).at F).post enc Tryd.prog Tryd.f12 false true false false) := by
  obtain ⟨places, hx⟩ := reads os enc
  refine returnsInHanded_of_row (C := Tryd.checked) (s := OpenSpec.ofChange Rows.capPermsSpec) own started (by kernel_rfl) Tryd.func12
    (witness_row_at (enc := enc) (C := Tryd.checked) false (laidWorld os) #[.agg #[.bool false, .int .u32 0, .int .u32 0, .int .u32 0, .int .u16 0, .int .u16 0], .int .u16 0, .int .u16 0] rfl (by kernel_rfl) (by kernel_rfl) (by kernel_rfl)
      (OpenSpec.preRow_of_cond 8 hx (by kernel_rfl) (fun k hk => by cases hk) (by kernel_rfl) (laid_met os))) ?_
  intro W base args ds gs before hval hW _ _ _ hL _ _
  exact contract H enc W base args ds gs before hval hW hL

theorem said : Rows.CapPermsSaid :=
  OpenClaim.holds_of_cond 12 Tryd.f12 rfl rfl rfl rfl rfl rfl rfl ⟨rfl, rfl, rfl, rfl, rfl⟩ rfl rfl rfl rfl rfl (by kernel_rfl) Tryd.func12 (by kernel_rfl)
    (of_decide_eq_true (by kernel_rfl)) (by unfold Func.isWrapper; first | (rw [if_pos (by decide +kernel)]; kernel_rfl) | (rw [if_neg (by decide +kernel)]; exact ⟨rfl, rfl⟩))
    (fun os started H enc _ F => by rw [OpenClaim.pre_eq_preRow]; exact lifted os started H enc F)

theorem plain (f : FuncId) (fn : Func) (hf : Tryd.pinned.checked.prog.funcNamed "hasp/hasplaw2.CapPerms" = some f) (hfn : Tryd.pinned.checked.prog.funcs[f]? = some fn) :
    false = Tryd.pinned.checked.prog.looks [] ∧ ∀ (j : Nat) t, fn.params[j]? = some t → Tryd.pinned.checked.prog.wantsStandIn t = false := by
  obtain rfl : f = 12 := Option.some.inj ((show Tryd.prog.funcNamed "hasp/hasplaw2.CapPerms" = some 12 by kernel_rfl).symm.trans hf) |>.symm
  obtain rfl : fn = Tryd.f12 := (Option.some.inj (Tryd.func12.symm.trans hfn)).symm
  refine ⟨by kernel_rfl, fun j t ht => ?_⟩
  rw [Tryd.params12] at ht
  have hm := Array.mem_of_getElem? ht
  simp only [List.mem_toArray, List.mem_cons, List.not_mem_nil, or_false] at hm
  rcases hm with rfl | rfl | rfl
  · exact (show Tryd.prog.wantsStandIn 25 = false by kernel_rfl)
  · exact (show Tryd.prog.wantsStandIn 23 = false by kernel_rfl)
  · exact (show Tryd.prog.wantsStandIn 23 = false by kernel_rfl)

/-- The card. -/
theorem card : Rows.CapPermsCardSaid :=
  Claim7.holds_tied_plain_at .later [] _ _ _ _ said (fun _ h => by cases h) (by kernel_rfl) (fun _ h => by cases h) capPerms_row_tie rfl ⟨rfl, rfl⟩ (by kernel_rfl) rfl plain (by kernel_rfl)
end Go.Proofs.YtfhmkmbdfeoegaaDoor.lawCapPerms
