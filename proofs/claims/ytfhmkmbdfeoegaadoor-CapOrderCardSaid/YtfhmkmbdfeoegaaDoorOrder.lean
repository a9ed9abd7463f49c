/- Less is an order, and both ways only where bounds and permissions are the same: the law answers true and leaves its arguments alone. No condition beyond the row's own. -/
import Derived.Test.YtfhmkmbdfeoegaaDoorCards
import Derived.Test.YtfhmkmbdfeoegaaDoorTie
import Derived.Test.YtfhmkmbdfeoegaaDoorM
import Derived.Test.YtfhmkmbdfeoegaaDoorS
import Derived.Deep.DeepHandedRow
namespace Go.Proofs.YtfhmkmbdfeoegaaDoor.lawCapOrder
open Go.ChangeShapes Go.WideShapes Go.ChangeAt Go.RowKit
set_option linter.unusedVariables false
set_option linter.unusedSimpArgs false

theorem sub_v (tg : Bool) (b t a p y : Int) (ktg : Bool) (kb kt ka kp ky : Int) (r : Bool) (w : World) (h : subB b t p kb kt kp = r) :
    Calls Tryd.prog 35 #[.agg #[.bool tg, .int .u32 b, .int .u32 t, .int .u32 a, .int .u16 p, .int .u16 y], .agg #[.bool ktg, .int .u32 kb, .int .u32 kt, .int .u32 ka, .int .u16 kp, .int .u16 ky]] w fun e w' =>
      e = .returned (.bool r) ∧ Below w.heap.size w w' := by
  rw [← h]
  exact sub_c tg b t a p y ktg kb kt ka kp ky w

set_option maxHeartbeats 4000000 in
theorem walk (ctg : Bool) (cb ct ca cp cy : Int) (dtg : Bool) (db dt da dp dy : Int) (etg : Bool) (eb et ea ep ey : Int) (w : World) (htab : Tab w) (hcb : U32 cb) (hct : U32 ct) (hca : U32 ca) (hcp : U16 cp) (hcy : U16 cy) (hdb : U32 db) (hdt : U32 dt) (hda : U32 da) (hdp : U16 dp) (hdy : U16 dy) (heb : U32 eb) (het : U32 et) (hea : U32 ea) (hep : U16 ep) (hey : U16 ey) :
    Calls Tryd.prog 9 #[.agg #[.bool ctg, .int .u32 cb, .int .u32 ct, .int .u32 ca, .int .u16 cp, .int .u16 cy], .agg #[.bool dtg, .int .u32 db, .int .u32 dt, .int .u32 da, .int .u16 dp, .int .u16 dy], .agg #[.bool etg, .int .u32 eb, .int .u32 et, .int .u32 ea, .int .u16 ep, .int .u16 ey]] w fun e w' => e = .returned (.bool true) ∧ Below w.heap.size w w' := by
  have s0 : subB cb ct cp cb ct cp = true := subB_refl hcp
  rcases Bool.eq_false_or_eq_true (subB cb ct cp db dt dp) with s1 | s1
  · rcases Bool.eq_false_or_eq_true (subB db dt dp eb et ep) with s2 | s2
    · have s3 : subB cb ct cp eb et ep = true := subB_trans hcp hdp hep s1 s2
      rcases Bool.eq_false_or_eq_true (cb == db) with g1 | g1
      · rcases Bool.eq_false_or_eq_true (ct == dt) with g2 | g2
        · rcases Bool.eq_false_or_eq_true (cp == dp) with g3 | g3
          · have s4 : subB db dt dp cb ct cp = true := by rw [← beq_iff_eq.1 g1, ← beq_iff_eq.1 g2, ← beq_iff_eq.1 g3]; exact s0
            go_enter Tryd.func9, Tryd.ntmps9
            go_wp2_with fail
            ((with_reducible refine (known_c _ (htab.later (ba (ba (ba (b0 w) (.cells (#[.bool ctg, .int .u32 cb, .int .u32 ct, .int .u32 ca, .int .u16 cp, .int .u16 cy] : Array Value) 25)) (.cells (#[.bool dtg, .int .u32 db, .int .u32 dt, .int .u32 da, .int .u16 dp, .int .u16 dy] : Array Value) 25)) (.cells (#[.bool etg, .int .u32 eb, .int .u32 et, .int .u32 ea, .int .u16 ep, .int .u16 ey] : Array Value) 25)))).mono ?_); rintro e w1 ⟨rfl, hb1⟩)
            have d1 := bt (ba (ba (ba (b0 w) (.cells (#[.bool ctg, .int .u32 cb, .int .u32 ct, .int .u32 ca, .int .u16 cp, .int .u16 cy] : Array Value) 25)) (.cells (#[.bool dtg, .int .u32 db, .int .u32 dt, .int .u32 da, .int .u16 dp, .int .u16 dy] : Array Value) 25)) (.cells (#[.bool etg, .int .u32 eb, .int .u32 et, .int .u32 ea, .int .u16 ep, .int .u16 ey] : Array Value) 25)) hb1
            have Xc1 := ((Box.alloc ((Box.alloc (Box.new_at w (#[.bool ctg, .int .u32 cb, .int .u32 ct, .int .u32 ca, .int .u16 cp, .int .u16 cy] : Array Value) 25 (w.heap.size) (by first | rfl | (simp; done) | (simp; omega))) (.cells (#[.bool dtg, .int .u32 db, .int .u32 dt, .int .u32 da, .int .u16 dp, .int .u16 dy] : Array Value) 25))) (.cells (#[.bool etg, .int .u32 eb, .int .u32 et, .int .u32 ea, .int .u16 ep, .int .u16 ey] : Array Value) 25))).later hb1
            have kc1 := Xc1.2
            have lc1 := Xc1.1
            have Xd1 := ((Box.alloc (Box.new_at (w.alloc (.cells #[.bool ctg, .int .u32 cb, .int .u32 ct, .int .u32 ca, .int .u16 cp, .int .u16 cy] 25)) (#[.bool dtg, .int .u32 db, .int .u32 dt, .int .u32 da, .int .u16 dp, .int .u16 dy] : Array Value) 25 (w.heap.size + 1) (by first | rfl | (simp; done) | (simp; omega))) (.cells (#[.bool etg, .int .u32 eb, .int .u32 et, .int .u32 ea, .int .u16 ep, .int .u16 ey] : Array Value) 25))).later hb1
            have kd1 := Xd1.2
            have ld1 := Xd1.1
            have Xe1 := (Box.new_at ((w.alloc (.cells #[.bool ctg, .int .u32 cb, .int .u32 ct, .int .u32 ca, .int .u16 cp, .int .u16 cy] 25)).alloc (.cells #[.bool dtg, .int .u32 db, .int .u32 dt, .int .u32 da, .int .u16 dp, .int .u16 dy] 25)) (#[.bool etg, .int .u32 eb, .int .u32 et, .int .u32 ea, .int .u16 ep, .int .u16 ey] : Array Value) 25 (w.heap.size + 2) (by first | rfl | (simp; done) | (simp; omega))).later hb1
            have ke1 := Xe1.2
            have le1 := Xe1.1
            go_wp2_with fail
            ((with_reducible refine (sub_v ctg cb ct ca cp cy dtg db dt da dp dy _ _ s1).mono ?_); rintro e w2 ⟨rfl, hb2⟩)
            have d2 := bt d1 hb2
            have Xc2 := Xc1.later hb2
            have kc2 := Xc2.2
            have lc2 := Xc2.1
            have Xd2 := Xd1.later hb2
            have kd2 := Xd2.2
            have ld2 := Xd2.1
            have Xe2 := Xe1.later hb2
            have ke2 := Xe2.2
            have le2 := Xe2.1
            go_wp2_with fail
            ((with_reducible refine (sub_v dtg db dt da dp dy etg eb et ea ep ey _ _ s2).mono ?_); rintro e w3 ⟨rfl, hb3⟩)
            have d3 := bt d2 hb3
            have Xc3 := Xc2.later hb3
            have kc3 := Xc3.2
            have lc3 := Xc3.1
            have Xd3 := Xd2.later hb3
            have kd3 := Xd3.2
            have ld3 := Xd3.1
            have Xe3 := Xe2.later hb3
            have ke3 := Xe3.2
            have le3 := Xe3.1
            go_wp2_with fail
            ((with_reducible refine (sub_v ctg cb ct ca cp cy etg eb et ea ep ey _ _ s3).mono ?_); rintro e w4 ⟨rfl, hb4⟩)
            have d4 := bt d3 hb4
            have Xc4 := Xc3.later hb4
            have kc4 := Xc4.2
            have lc4 := Xc4.1
            have Xd4 := Xd3.later hb4
            have kd4 := Xd4.2
            have ld4 := Xd4.1
            have Xe4 := Xe3.later hb4
            have ke4 := Xe4.2
            have le4 := Xe4.1
            go_upto_region 6 with (fail)
            try simp only [List.append_eq, List.cons_append, List.nil_append]
            refine reg_plain (fun W => Tab W ∧ Below w.heap.size w W ∧ Box W (w.heap.size) #[.bool ctg, .int .u32 cb, .int .u32 ct, .int .u32 ca, .int .u16 cp, .int .u16 cy] ∧ Box W (w.heap.size + 1) #[.bool dtg, .int .u32 db, .int .u32 dt, .int .u32 da, .int .u16 dp, .int .u16 dy] ∧ Box W (w.heap.size + 2) #[.bool etg, .int .u32 eb, .int .u32 et, .int .u32 ea, .int .u16 ep, .int .u16 ey]) ⟨htab.later d4, d4, Xc4, Xd4, Xe4⟩ ?_
            rintro W ⟨T, D, Yc, Yd, Ye⟩
            have Cc := Yc.at_
            have Cd := Yd.at_
            have Ce := Ye.at_
            repeat (go_big_quiet_step (first | (go_at_call 35; exact Later.call (sub_v _ _ _ _ _ _ _ _ _ _ _ _ _ _ (by assumption)))))
            refine wpQuiet_nil ?_
            rintro _ ⟨u, rfl⟩
            go_wp2
            go_ret
            exact ⟨rfl, bt D u.below⟩
          · have s4 : subB db dt dp cb ct cp = false := by
              rcases Bool.eq_false_or_eq_true (subB db dt dp cb ct cp) with h | h
              · obtain ⟨e1, e2, e3⟩ := subB_anti hcp hdp s1 h
                simp [e1, e2, e3] at g3
              · exact h
            go_enter Tryd.func9, Tryd.ntmps9
            go_wp2_with fail
            ((with_reducible refine (known_c _ (htab.later (ba (ba (ba (b0 w) (.cells (#[.bool ctg, .int .u32 cb, .int .u32 ct, .int .u32 ca, .int .u16 cp, .int .u16 cy] : Array Value) 25)) (.cells (#[.bool dtg, .int .u32 db, .int .u32 dt, .int .u32 da, .int .u16 dp, .int .u16 dy] : Array Value) 25)) (.cells (#[.bool etg, .int .u32 eb, .int .u32 et, .int .u32 ea, .int .u16 ep, .int .u16 ey] : Array Value) 25)))).mono ?_); rintro e w1 ⟨rfl, hb1⟩)
            have d1 := bt (ba (ba (ba (b0 w) (.cells (#[.bool ctg, .int .u32 cb, .int .u32 ct, .int .u32 ca, .int .u16 cp, .int .u16 cy] : Array Value) 25)) (.cells (#[.bool dtg, .int .u32 db, .int .u32 dt, .int .u32 da, .int .u16 dp, .int .u16 dy] : Array Value) 25)) (.cells (#[.bool etg, .int .u32 eb, .int .u32 et, .int .u32 ea, .int .u16 ep, .int .u16 ey] : Array Value) 25)) hb1
            have Xc1 := ((Box.alloc ((Box.alloc (Box.new_at w (#[.bool ctg, .int .u32 cb, .int .u32 ct, .int .u32 ca, .int .u16 cp, .int .u16 cy] : Array Value) 25 (w.heap.size) (by first | rfl | (simp; done) | (simp; omega))) (.cells (#[.bool dtg, .int .u32 db, .int .u32 dt, .int .u32 da, .int .u16 dp, .int .u16 dy] : Array Value) 25))) (.cells (#[.bool etg, .int .u32 eb, .int .u32 et, .int .u32 ea, .int .u16 ep, .int .u16 ey] : Array Value) 25))).later hb1
            have kc1 := Xc1.2
            have lc1 := Xc1.1
            have Xd1 := ((Box.alloc (Box.new_at (w.alloc (.cells #[.bool ctg, .int .u32 cb, .int .u32 ct, .int .u32 ca, .int .u16 cp, .int .u16 cy] 25)) (#[.bool dtg, .int .u32 db, .int .u32 dt, .int .u32 da, .int .u16 dp, .int .u16 dy] : Array Value) 25 (w.heap.size + 1) (by first | rfl | (simp; done) | (simp; omega))) (.cells (#[.bool etg, .int .u32 eb, .int .u32 et, .int .u32 ea, .int .u16 ep, .int .u16 ey] : Array Value) 25))).later hb1
            have kd1 := Xd1.2
            have ld1 := Xd1.1
            have Xe1 := (Box.new_at ((w.alloc (.cells #[.bool ctg, .int .u32 cb, .int .u32 ct, .int .u32 ca, .int .u16 cp, .int .u16 cy] 25)).alloc (.cells #[.bool dtg, .int .u32 db, .int .u32 dt, .int .u32 da, .int .u16 dp, .int .u16 dy] 25)) (#[.bool etg, .int .u32 eb, .int .u32 et, .int .u32 ea, .int .u16 ep, .int .u16 ey] : Array Value) 25 (w.heap.size + 2) (by first | rfl | (simp; done) | (simp; omega))).later hb1
            have ke1 := Xe1.2
            have le1 := Xe1.1
            go_wp2_with fail
            ((with_reducible refine (sub_v ctg cb ct ca cp cy dtg db dt da dp dy _ _ s1).mono ?_); rintro e w2 ⟨rfl, hb2⟩)
            have d2 := bt d1 hb2
            have Xc2 := Xc1.later hb2
            have kc2 := Xc2.2
            have lc2 := Xc2.1
            have Xd2 := Xd1.later hb2
            have kd2 := Xd2.2
            have ld2 := Xd2.1
            have Xe2 := Xe1.later hb2
            have ke2 := Xe2.2
            have le2 := Xe2.1
            go_wp2_with fail
            ((with_reducible refine (sub_v dtg db dt da dp dy etg eb et ea ep ey _ _ s2).mono ?_); rintro e w3 ⟨rfl, hb3⟩)
            have d3 := bt d2 hb3
            have Xc3 := Xc2.later hb3
            have kc3 := Xc3.2
            have lc3 := Xc3.1
            have Xd3 := Xd2.later hb3
            have kd3 := Xd3.2
            have ld3 := Xd3.1
            have Xe3 := Xe2.later hb3
            have ke3 := Xe3.2
            have le3 := Xe3.1
            go_wp2_with fail
            ((with_reducible refine (sub_v ctg cb ct ca cp cy etg eb et ea ep ey _ _ s3).mono ?_); rintro e w4 ⟨rfl, hb4⟩)
            have d4 := bt d3 hb4
            have Xc4 := Xc3.later hb4
            have kc4 := Xc4.2
            have lc4 := Xc4.1
            have Xd4 := Xd3.later hb4
            have kd4 := Xd4.2
            have ld4 := Xd4.1
            have Xe4 := Xe3.later hb4
            have ke4 := Xe4.2
            have le4 := Xe4.1
            go_upto_region 6 with (fail)
            try simp only [List.append_eq, List.cons_append, List.nil_append]
            refine reg_plain (fun W => Tab W ∧ Below w.heap.size w W ∧ Box W (w.heap.size) #[.bool ctg, .int .u32 cb, .int .u32 ct, .int .u32 ca, .int .u16 cp, .int .u16 cy] ∧ Box W (w.heap.size + 1) #[.bool dtg, .int .u32 db, .int .u32 dt, .int .u32 da, .int .u16 dp, .int .u16 dy] ∧ Box W (w.heap.size + 2) #[.bool etg, .int .u32 eb, .int .u32 et, .int .u32 ea, .int .u16 ep, .int .u16 ey]) ⟨htab.later d4, d4, Xc4, Xd4, Xe4⟩ ?_
            rintro W ⟨T, D, Yc, Yd, Ye⟩
            have Cc := Yc.at_
            have Cd := Yd.at_
            have Ce := Ye.at_
            repeat (go_big_quiet_step (first | (go_at_call 35; exact Later.call (sub_v _ _ _ _ _ _ _ _ _ _ _ _ _ _ (by assumption)))))
            refine wpQuiet_nil ?_
            rintro _ ⟨u, rfl⟩
            go_wp2
            go_ret
            exact ⟨rfl, bt D u.below⟩
        · have s4 : subB db dt dp cb ct cp = false := by
            rcases Bool.eq_false_or_eq_true (subB db dt dp cb ct cp) with h | h
            · obtain ⟨e1, e2, e3⟩ := subB_anti hcp hdp s1 h
              simp [e1, e2, e3] at g2
            · exact h
          go_enter Tryd.func9, Tryd.ntmps9
          go_wp2_with fail
          ((with_reducible refine (known_c _ (htab.later (ba (ba (ba (b0 w) (.cells (#[.bool ctg, .int .u32 cb, .int .u32 ct, .int .u32 ca, .int .u16 cp, .int .u16 cy] : Array Value) 25)) (.cells (#[.bool dtg, .int .u32 db, .int .u32 dt, .int .u32 da, .int .u16 dp, .int .u16 dy] : Array Value) 25)) (.cells (#[.bool etg, .int .u32 eb, .int .u32 et, .int .u32 ea, .int .u16 ep, .int .u16 ey] : Array Value) 25)))).mono ?_); rintro e w1 ⟨rfl, hb1⟩)
          have d1 := bt (ba (ba (ba (b0 w) (.cells (#[.bool ctg, .int .u32 cb, .int .u32 ct, .int .u32 ca, .int .u16 cp, .int .u16 cy] : Array Value) 25)) (.cells (#[.bool dtg, .int .u32 db, .int .u32 dt, .int .u32 da, .int .u16 dp, .int .u16 dy] : Array Value) 25)) (.cells (#[.bool etg, .int .u32 eb, .int .u32 et, .int .u32 ea, .int .u16 ep, .int .u16 ey] : Array Value) 25)) hb1
          have Xc1 := ((Box.alloc ((Box.alloc (Box.new_at w (#[.bool ctg, .int .u32 cb, .int .u32 ct, .int .u32 ca, .int .u16 cp, .int .u16 cy] : Array Value) 25 (w.heap.size) (by first | rfl | (simp; done) | (simp; omega))) (.cells (#[.bool dtg, .int .u32 db, .int .u32 dt, .int .u32 da, .int .u16 dp, .int .u16 dy] : Array Value) 25))) (.cells (#[.bool etg, .int .u32 eb, .int .u32 et, .int .u32 ea, .int .u16 ep, .int .u16 ey] : Array Value) 25))).later hb1
          have kc1 := Xc1.2
          have lc1 := Xc1.1
          have Xd1 := ((Box.alloc (Box.new_at (w.alloc (.cells #[.bool ctg, .int .u32 cb, .int .u32 ct, .int .u32 ca, .int .u16 cp, .int .u16 cy] 25)) (#[.bool dtg, .int .u32 db, .int .u32 dt, .int .u32 da, .int .u16 dp, .int .u16 dy] : Array Value) 25 (w.heap.size + 1) (by first | rfl | (simp; done) | (simp; omega))) (.cells (#[.bool etg, .int .u32 eb, .int .u32 et, .int .u32 ea, .int .u16 ep, .int .u16 ey] : Array Value) 25))).later hb1
          have kd1 := Xd1.2
          have ld1 := Xd1.1
          have Xe1 := (Box.new_at ((w.alloc (.cells #[.bool ctg, .int .u32 cb, .int .u32 ct, .int .u32 ca, .int .u16 cp, .int .u16 cy] 25)).alloc (.cells #[.bool dtg, .int .u32 db, .int .u32 dt, .int .u32 da, .int .u16 dp, .int .u16 dy] 25)) (#[.bool etg, .int .u32 eb, .int .u32 et, .int .u32 ea, .int .u16 ep, .int .u16 ey] : Array Value) 25 (w.heap.size + 2) (by first | rfl | (simp; done) | (simp; omega))).later hb1
          have ke1 := Xe1.2
          have le1 := Xe1.1
          go_wp2_with fail
          ((with_reducible refine (sub_v ctg cb ct ca cp cy dtg db dt da dp dy _ _ s1).mono ?_); rintro e w2 ⟨rfl, hb2⟩)
          have d2 := bt d1 hb2
          have Xc2 := Xc1.later hb2
          have kc2 := Xc2.2
          have lc2 := Xc2.1
          have Xd2 := Xd1.later hb2
          have kd2 := Xd2.2
          have ld2 := Xd2.1
          have Xe2 := Xe1.later hb2
          have ke2 := Xe2.2
          have le2 := Xe2.1
          go_wp2_with fail
          ((with_reducible refine (sub_v dtg db dt da dp dy etg eb et ea ep ey _ _ s2).mono ?_); rintro e w3 ⟨rfl, hb3⟩)
          have d3 := bt d2 hb3
          have Xc3 := Xc2.later hb3
          have kc3 := Xc3.2
          have lc3 := Xc3.1
          have Xd3 := Xd2.later hb3
          have kd3 := Xd3.2
          have ld3 := Xd3.1
          have Xe3 := Xe2.later hb3
          have ke3 := Xe3.2
          have le3 := Xe3.1
          go_wp2_with fail
          ((with_reducible refine (sub_v ctg cb ct ca cp cy etg eb et ea ep ey _ _ s3).mono ?_); rintro e w4 ⟨rfl, hb4⟩)
          have d4 := bt d3 hb4
          have Xc4 := Xc3.later hb4
          have kc4 := Xc4.2
          have lc4 := Xc4.1
          have Xd4 := Xd3.later hb4
          have kd4 := Xd4.2
          have ld4 := Xd4.1
          have Xe4 := Xe3.later hb4
          have ke4 := Xe4.2
          have le4 := Xe4.1
          go_upto_region 6 with (fail)
          try simp only [List.append_eq, List.cons_append, List.nil_append]
          refine reg_plain (fun W => Tab W ∧ Below w.heap.size w W ∧ Box W (w.heap.size) #[.bool ctg, .int .u32 cb, .int .u32 ct, .int .u32 ca, .int .u16 cp, .int .u16 cy] ∧ Box W (w.heap.size + 1) #[.bool dtg, .int .u32 db, .int .u32 dt, .int .u32 da, .int .u16 dp, .int .u16 dy] ∧ Box W (w.heap.size + 2) #[.bool etg, .int .u32 eb, .int .u32 et, .int .u32 ea, .int .u16 ep, .int .u16 ey]) ⟨htab.later d4, d4, Xc4, Xd4, Xe4⟩ ?_
          rintro W ⟨T, D, Yc, Yd, Ye⟩
          have Cc := Yc.at_
          have Cd := Yd.at_
          have Ce := Ye.at_
          repeat (go_big_quiet_step (first | (go_at_call 35; exact Later.call (sub_v _ _ _ _ _ _ _ _ _ _ _ _ _ _ (by assumption)))))
          refine wpQuiet_nil ?_
          rintro _ ⟨u, rfl⟩
          go_wp2
          go_ret
          exact ⟨rfl, bt D u.below⟩
      · have s4 : subB db dt dp cb ct cp = false := by
          rcases Bool.eq_false_or_eq_true (subB db dt dp cb ct cp) with h | h
          · obtain ⟨e1, e2, e3⟩ := subB_anti hcp hdp s1 h
            simp [e1, e2, e3] at g1
          · exact h
        go_enter Tryd.func9, Tryd.ntmps9
        go_wp2_with fail
        ((with_reducible refine (known_c _ (htab.later (ba (ba (ba (b0 w) (.cells (#[.bool ctg, .int .u32 cb, .int .u32 ct, .int .u32 ca, .int .u16 cp, .int .u16 cy] : Array Value) 25)) (.cells (#[.bool dtg, .int .u32 db, .int .u32 dt, .int .u32 da, .int .u16 dp, .int .u16 dy] : Array Value) 25)) (.cells (#[.bool etg, .int .u32 eb, .int .u32 et, .int .u32 ea, .int .u16 ep, .int .u16 ey] : Array Value) 25)))).mono ?_); rintro e w1 ⟨rfl, hb1⟩)
        have d1 := bt (ba (ba (ba (b0 w) (.cells (#[.bool ctg, .int .u32 cb, .int .u32 ct, .int .u32 ca, .int .u16 cp, .int .u16 cy] : Array Value) 25)) (.cells (#[.bool dtg, .int .u32 db, .int .u32 dt, .int .u32 da, .int .u16 dp, .int .u16 dy] : Array Value) 25)) (.cells (#[.bool etg, .int .u32 eb, .int .u32 et, .int .u32 ea, .int .u16 ep, .int .u16 ey] : Array Value) 25)) hb1
        have Xc1 := ((Box.alloc ((Box.alloc (Box.new_at w (#[.bool ctg, .int .u32 cb, .int .u32 ct, .int .u32 ca, .int .u16 cp, .int .u16 cy] : Array Value) 25 (w.heap.size) (by first | rfl | (simp; done) | (simp; omega))) (.cells (#[.bool dtg, .int .u32 db, .int .u32 dt, .int .u32 da, .int .u16 dp, .int .u16 dy] : Array Value) 25))) (.cells (#[.bool etg, .int .u32 eb, .int .u32 et, .int .u32 ea, .int .u16 ep, .int .u16 ey] : Array Value) 25))).later hb1
        have kc1 := Xc1.2
        have lc1 := Xc1.1
        have Xd1 := ((Box.alloc (Box.new_at (w.alloc (.cells #[.bool ctg, .int .u32 cb, .int .u32 ct, .int .u32 ca, .int .u16 cp, .int .u16 cy] 25)) (#[.bool dtg, .int .u32 db, .int .u32 dt, .int .u32 da, .int .u16 dp, .int .u16 dy] : Array Value) 25 (w.heap.size + 1) (by first | rfl | (simp; done) | (simp; omega))) (.cells (#[.bool etg, .int .u32 eb, .int .u32 et, .int .u32 ea, .int .u16 ep, .int .u16 ey] : Array Value) 25))).later hb1
        have kd1 := Xd1.2
        have ld1 := Xd1.1
        have Xe1 := (Box.new_at ((w.alloc (.cells #[.bool ctg, .int .u32 cb, .int .u32 ct, .int .u32 ca, .int .u16 cp, .int .u16 cy] 25)).alloc (.cells #[.bool dtg, .int .u32 db, .int .u32 dt, .int .u32 da, .int .u16 dp, .int .u16 dy] 25)) (#[.bool etg, .int .u32 eb, .int .u32 et, .int .u32 ea, .int .u16 ep, .int .u16 ey] : Array Value) 25 (w.heap.size + 2) (by first | rfl | (simp; done) | (simp; omega))).later hb1
        have ke1 := Xe1.2
        have le1 := Xe1.1
        go_wp2_with fail
        ((with_reducible refine (sub_v ctg cb ct ca cp cy dtg db dt da dp dy _ _ s1).mono ?_); rintro e w2 ⟨rfl, hb2⟩)
        have d2 := bt d1 hb2
        have Xc2 := Xc1.later hb2
        have kc2 := Xc2.2
        have lc2 := Xc2.1
        have Xd2 := Xd1.later hb2
        have kd2 := Xd2.2
        have ld2 := Xd2.1
        have Xe2 := Xe1.later hb2
        have ke2 := Xe2.2
        have le2 := Xe2.1
        go_wp2_with fail
        ((with_reducible refine (sub_v dtg db dt da dp dy etg eb et ea ep ey _ _ s2).mono ?_); rintro e w3 ⟨rfl, hb3⟩)
        have d3 := bt d2 hb3
        have Xc3 := Xc2.later hb3
        have kc3 := Xc3.2
        have lc3 := Xc3.1
        have Xd3 := Xd2.later hb3
        have kd3 := Xd3.2
        have ld3 := Xd3.1
        have Xe3 := Xe2.later hb3
        have ke3 := Xe3.2
        have le3 := Xe3.1
        go_wp2_with fail
        ((with_reducible refine (sub_v ctg cb ct ca cp cy etg eb et ea ep ey _ _ s3).mono ?_); rintro e w4 ⟨rfl, hb4⟩)
        have d4 := bt d3 hb4
        have Xc4 := Xc3.later hb4
        have kc4 := Xc4.2
        have lc4 := Xc4.1
        have Xd4 := Xd3.later hb4
        have kd4 := Xd4.2
        have ld4 := Xd4.1
        have Xe4 := Xe3.later hb4
        have ke4 := Xe4.2
        have le4 := Xe4.1
        go_upto_region 6 with (fail)
        try simp only [List.append_eq, List.cons_append, List.nil_append]
        refine reg_plain (fun W => Tab W ∧ Below w.heap.size w W ∧ Box W (w.heap.size) #[.bool ctg, .int .u32 cb, .int .u32 ct, .int .u32 ca, .int .u16 cp, .int .u16 cy] ∧ Box W (w.heap.size + 1) #[.bool dtg, .int .u32 db, .int .u32 dt, .int .u32 da, .int .u16 dp, .int .u16 dy] ∧ Box W (w.heap.size + 2) #[.bool etg, .int .u32 eb, .int .u32 et, .int .u32 ea, .int .u16 ep, .int .u16 ey]) ⟨htab.later d4, d4, Xc4, Xd4, Xe4⟩ ?_
        rintro W ⟨T, D, Yc, Yd, Ye⟩
        have Cc := Yc.at_
        have Cd := Yd.at_
        have Ce := Ye.at_
        repeat (go_big_quiet_step (first | (go_at_call 35; exact Later.call (sub_v _ _ _ _ _ _ _ _ _ _ _ _ _ _ (by assumption)))))
        refine wpQuiet_nil ?_
        rintro _ ⟨u, rfl⟩
        go_wp2
        go_ret
        exact ⟨rfl, bt D u.below⟩
    · rcases Bool.eq_false_or_eq_true (cb == db) with g1 | g1
      · rcases Bool.eq_false_or_eq_true (ct == dt) with g2 | g2
        · rcases Bool.eq_false_or_eq_true (cp == dp) with g3 | g3
          · have s4 : subB db dt dp cb ct cp = true := by rw [← beq_iff_eq.1 g1, ← beq_iff_eq.1 g2, ← beq_iff_eq.1 g3]; exact s0
            go_enter Tryd.func9, Tryd.ntmps9
            go_wp2_with fail
            ((with_reducible refine (known_c _ (htab.later (ba (ba (ba (b0 w) (.cells (#[.bool ctg, .int .u32 cb, .int .u32 ct, .int .u32 ca, .int .u16 cp, .int .u16 cy] : Array Value) 25)) (.cells (#[.bool dtg, .int .u32 db, .int .u32 dt, .int .u32 da, .int .u16 dp, .int .u16 dy] : Array Value) 25)) (.cells (#[.bool etg, .int .u32 eb, .int .u32 et, .int .u32 ea, .int .u16 ep, .int .u16 ey] : Array Value) 25)))).mono ?_); rintro e w1 ⟨rfl, hb1⟩)
            have d1 := bt (ba (ba (ba (b0 w) (.cells (#[.bool ctg, .int .u32 cb, .int .u32 ct, .int .u32 ca, .int .u16 cp, .int .u16 cy] : Array Value) 25)) (.cells (#[.bool dtg, .int .u32 db, .int .u32 dt, .int .u32 da, .int .u16 dp, .int .u16 dy] : Array Value) 25)) (.cells (#[.bool etg, .int .u32 eb, .int .u32 et, .int .u32 ea, .int .u16 ep, .int .u16 ey] : Array Value) 25)) hb1
            have Xc1 := ((Box.alloc ((Box.alloc (Box.new_at w (#[.bool ctg, .int .u32 cb, .int .u32 ct, .int .u32 ca, .int .u16 cp, .int .u16 cy] : Array Value) 25 (w.heap.size) (by first | rfl | (simp; done) | (simp; omega))) (.cells (#[.bool dtg, .int .u32 db, .int .u32 dt, .int .u32 da, .int .u16 dp, .int .u16 dy] : Array Value) 25))) (.cells (#[.bool etg, .int .u32 eb, .int .u32 et, .int .u32 ea, .int .u16 ep, .int .u16 ey] : Array Value) 25))).later hb1
            have kc1 := Xc1.2
            have lc1 := Xc1.1
            have Xd1 := ((Box.alloc (Box.new_at (w.alloc (.cells #[.bool ctg, .int .u32 cb, .int .u32 ct, .int .u32 ca, .int .u16 cp, .int .u16 cy] 25)) (#[.bool dtg, .int .u32 db, .int .u32 dt, .int .u32 da, .int .u16 dp, .int .u16 dy] : Array Value) 25 (w.heap.size + 1) (by first | rfl | (simp; done) | (simp; omega))) (.cells (#[.bool etg, .int .u32 eb, .int .u32 et, .int .u32 ea, .int .u16 ep, .int .u16 ey] : Array Value) 25))).later hb1
            have kd1 := Xd1.2
            have ld1 := Xd1.1
            have Xe1 := (Box.new_at ((w.alloc (.cells #[.bool ctg, .int .u32 cb, .int .u32 ct, .int .u32 ca, .int .u16 cp, .int .u16 cy] 25)).alloc (.cells #[.bool dtg, .int .u32 db, .int .u32 dt, .int .u32 da, .int .u16 dp, .int .u16 dy] 25)) (#[.bool etg, .int .u32 eb, .int .u32 et, .int .u32 ea, .int .u16 ep, .int .u16 ey] : Array Value) 25 (w.heap.size + 2) (by first | rfl | (simp; done) | (simp; omega))).later hb1
            have ke1 := Xe1.2
            have le1 := Xe1.1
            go_wp2_with fail
            ((with_reducible refine (sub_v ctg cb ct ca cp cy dtg db dt da dp dy _ _ s1).mono ?_); rintro e w2 ⟨rfl, hb2⟩)
            have d2 := bt d1 hb2
            have Xc2 := Xc1.later hb2
            have kc2 := Xc2.2
            have lc2 := Xc2.1
            have Xd2 := Xd1.later hb2
            have kd2 := Xd2.2
            have ld2 := Xd2.1
            have Xe2 := Xe1.later hb2
            have ke2 := Xe2.2
            have le2 := Xe2.1
            go_wp2_with fail
            ((with_reducible refine (sub_v dtg db dt da dp dy etg eb et ea ep ey _ _ s2).mono ?_); rintro e w3 ⟨rfl, hb3⟩)
            have d3 := bt d2 hb3
            have Xc3 := Xc2.later hb3
            have kc3 := Xc3.2
            have lc3 := Xc3.1
            have Xd3 := Xd2.later hb3
            have kd3 := Xd3.2
            have ld3 := Xd3.1
            have Xe3 := Xe2.later hb3
            have ke3 := Xe3.2
            have le3 := Xe3.1
            go_upto_region 6 with (fail)
            try simp only [List.append_eq, List.cons_append, List.nil_append]
            refine reg_plain (fun W => Tab W ∧ Below w.heap.size w W ∧ Box W (w.heap.size) #[.bool ctg, .int .u32 cb, .int .u32 ct, .int .u32 ca, .int .u16 cp, .int .u16 cy] ∧ Box W (w.heap.size + 1) #[.bool dtg, .int .u32 db, .int .u32 dt, .int .u32 da, .int .u16 dp, .int .u16 dy] ∧ Box W (w.heap.size + 2) #[.bool etg, .int .u32 eb, .int .u32 et, .int .u32 ea, .int .u16 ep, .int .u16 ey]) ⟨htab.later d3, d3, Xc3, Xd3, Xe3⟩ ?_
            rintro W ⟨T, D, Yc, Yd, Ye⟩
            have Cc := Yc.at_
            have Cd := Yd.at_
            have Ce := Ye.at_
            repeat (go_big_quiet_step (first | (go_at_call 35; exact Later.call (sub_v _ _ _ _ _ _ _ _ _ _ _ _ _ _ (by assumption)))))
            refine wpQuiet_nil ?_
            rintro _ ⟨u, rfl⟩
            go_wp2
            go_ret
            exact ⟨rfl, bt D u.below⟩
          · have s4 : subB db dt dp cb ct cp = false := by
              rcases Bool.eq_false_or_eq_true (subB db dt dp cb ct cp) with h | h
              · obtain ⟨e1, e2, e3⟩ := subB_anti hcp hdp s1 h
                simp [e1, e2, e3] at g3
              · exact h
            go_enter Tryd.func9, Tryd.ntmps9
            go_wp2_with fail
            ((with_reducible refine (known_c _ (htab.later (ba (ba (ba (b0 w) (.cells (#[.bool ctg, .int .u32 cb, .int .u32 ct, .int .u32 ca, .int .u16 cp, .int .u16 cy] : Array Value) 25)) (.cells (#[.bool dtg, .int .u32 db, .int .u32 dt, .int .u32 da, .int .u16 dp, .int .u16 dy] : Array Value) 25)) (.cells (#[.bool etg, .int .u32 eb, .int .u32 et, .int .u32 ea, .int .u16 ep, .int .u16 ey] : Array Value) 25)))).mono ?_); rintro e w1 ⟨rfl, hb1⟩)
            have d1 := bt (ba (ba (ba (b0 w) (.cells (#[.bool ctg, .int .u32 cb, .int .u32 ct, .int .u32 ca, .int .u16 cp, .int .u16 cy] : Array Value) 25)) (.cells (#[.bool dtg, .int .u32 db, .int .u32 dt, .int .u32 da, .int .u16 dp, .int .u16 dy] : Array Value) 25)) (.cells (#[.bool etg, .int .u32 eb, .int .u32 et, .int .u32 ea, .int .u16 ep, .int .u16 ey] : Array Value) 25)) hb1
            have Xc1 := ((Box.alloc ((Box.alloc (Box.new_at w (#[.bool ctg, .int .u32 cb, .int .u32 ct, .int .u32 ca, .int .u16 cp, .int .u16 cy] : Array Value) 25 (w.heap.size) (by first | rfl | (simp; done) | (simp; omega))) (.cells (#[.bool dtg, .int .u32 db, .int .u32 dt, .int .u32 da, .int .u16 dp, .int .u16 dy] : Array Value) 25))) (.cells (#[.bool etg, .int .u32 eb, .int .u32 et, .int .u32 ea, .int .u16 ep, .int .u16 ey] : Array Value) 25))).later hb1
            have kc1 := Xc1.2
            have lc1 := Xc1.1
            have Xd1 := ((Box.alloc (Box.new_at (w.alloc (.cells #[.bool ctg, .int .u32 cb, .int .u32 ct, .int .u32 ca, .int .u16 cp, .int .u16 cy] 25)) (#[.bool dtg, .int .u32 db, .int .u32 dt, .int .u32 da, .int .u16 dp, .int .u16 dy] : Array Value) 25 (w.heap.size + 1) (by first | rfl | (simp; done) | (simp; omega))) (.cells (#[.bool etg, .int .u32 eb, .int .u32 et, .int .u32 ea, .int .u16 ep, .int .u16 ey] : Array Value) 25))).later hb1
            have kd1 := Xd1.2
            have ld1 := Xd1.1
            have Xe1 := (Box.new_at ((w.alloc (.cells #[.bool ctg, .int .u32 cb, .int .u32 ct, .int .u32 ca, .int .u16 cp, .int .u16 cy] 25)).alloc (.cells #[.bool dtg, .int .u32 db, .int .u32 dt, .int .u32 da, .int .u16 dp, .int .u16 dy] 25)) (#[.bool etg, .int .u32 eb, .int .u32 et, .int .u32 ea, .int .u16 ep, .int .u16 ey] : Array Value) 25 (w.heap.size + 2) (by first | rfl | (simp; done) | (simp; omega))).later hb1
            have ke1 := Xe1.2
            have le1 := Xe1.1
            go_wp2_with fail
            ((with_reducible refine (sub_v ctg cb ct ca cp cy dtg db dt da dp dy _ _ s1).mono ?_); rintro e w2 ⟨rfl, hb2⟩)
            have d2 := bt d1 hb2
            have Xc2 := Xc1.later hb2
            have kc2 := Xc2.2
            have lc2 := Xc2.1
            have Xd2 := Xd1.later hb2
            have kd2 := Xd2.2
            have ld2 := Xd2.1
            have Xe2 := Xe1.later hb2
            have ke2 := Xe2.2
            have le2 := Xe2.1
            go_wp2_with fail
            ((with_reducible refine (sub_v dtg db dt da dp dy etg eb et ea ep ey _ _ s2).mono ?_); rintro e w3 ⟨rfl, hb3⟩)
            have d3 := bt d2 hb3
            have Xc3 := Xc2.later hb3
            have kc3 := Xc3.2
            have lc3 := Xc3.1
            have Xd3 := Xd2.later hb3
            have kd3 := Xd3.2
            have ld3 := Xd3.1
            have Xe3 := Xe2.later hb3
            have ke3 := Xe3.2
            have le3 := Xe3.1
            go_upto_region 6 with (fail)
            try simp only [List.append_eq, List.cons_append, List.nil_append]
            refine reg_plain (fun W => Tab W ∧ Below w.heap.size w W ∧ Box W (w.heap.size) #[.bool ctg, .int .u32 cb, .int .u32 ct, .int .u32 ca, .int .u16 cp, .int .u16 cy] ∧ Box W (w.heap.size + 1) #[.bool dtg, .int .u32 db, .int .u32 dt, .int .u32 da, .int .u16 dp, .int .u16 dy] ∧ Box W (w.heap.size + 2) #[.bool etg, .int .u32 eb, .int .u32 et, .int .u32 ea, .int .u16 ep, .int .u16 ey]) ⟨htab.later d3, d3, Xc3, Xd3, Xe3⟩ ?_
            rintro W ⟨T, D, Yc, Yd, Ye⟩
            have Cc := Yc.at_
            have Cd := Yd.at_
            have Ce := Ye.at_
            repeat (go_big_quiet_step (first | (go_at_call 35; exact Later.call (sub_v _ _ _ _ _ _ _ _ _ _ _ _ _ _ (by assumption)))))
            refine wpQuiet_nil ?_
            rintro _ ⟨u, rfl⟩
            go_wp2
            go_ret
            exact ⟨rfl, bt D u.below⟩
        · have s4 : subB db dt dp cb ct cp = false := by
            rcases Bool.eq_false_or_eq_true (subB db dt dp cb ct cp) with h | h
            · obtain ⟨e1, e2, e3⟩ := subB_anti hcp hdp s1 h
              simp [e1, e2, e3] at g2
            · exact h
          go_enter Tryd.func9, Tryd.ntmps9
          go_wp2_with fail
          ((with_reducible refine (known_c _ (htab.later (ba (ba (ba (b0 w) (.cells (#[.bool ctg, .int .u32 cb, .int .u32 ct, .int .u32 ca, .int .u16 cp, .int .u16 cy] : Array Value) 25)) (.cells (#[.bool dtg, .int .u32 db, .int .u32 dt, .int .u32 da, .int .u16 dp, .int .u16 dy] : Array Value) 25)) (.cells (#[.bool etg, .int .u32 eb, .int .u32 et, .int .u32 ea, .int .u16 ep, .int .u16 ey] : Array Value) 25)))).mono ?_); rintro e w1 ⟨rfl, hb1⟩)
          have d1 := bt (ba (ba (ba (b0 w) (.cells (#[.bool ctg, .int .u32 cb, .int .u32 ct, .int .u32 ca, .int .u16 cp, .int .u16 cy] : Array Value) 25)) (.cells (#[.bool dtg, .int .u32 db, .int .u32 dt, .int .u32 da, .int .u16 dp, .int .u16 dy] : Array Value) 25)) (.cells (#[.bool etg, .int .u32 eb, .int .u32 et, .int .u32 ea, .int .u16 ep, .int .u16 ey] : Array Value) 25)) hb1
          have Xc1 := ((Box.alloc ((Box.alloc (Box.new_at w (#[.bool ctg, .int .u32 cb, .int .u32 ct, .int .u32 ca, .int .u16 cp, .int .u16 cy] : Array Value) 25 (w.heap.size) (by first | rfl | (simp; done) | (simp; omega))) (.cells (#[.bool dtg, .int .u32 db, .int .u32 dt, .int .u32 da, .int .u16 dp, .int .u16 dy] : Array Value) 25))) (.cells (#[.bool etg, .int .u32 eb, .int .u32 et, .int .u32 ea, .int .u16 ep, .int .u16 ey] : Array Value) 25))).later hb1
          have kc1 := Xc1.2
          have lc1 := Xc1.1
          have Xd1 := ((Box.alloc (Box.new_at (w.alloc (.cells #[.bool ctg, .int .u32 cb, .int .u32 ct, .int .u32 ca, .int .u16 cp, .int .u16 cy] 25)) (#[.bool dtg, .int .u32 db, .int .u32 dt, .int .u32 da, .int .u16 dp, .int .u16 dy] : Array Value) 25 (w.heap.size + 1) (by first | rfl | (simp; done) | (simp; omega))) (.cells (#[.bool etg, .int .u32 eb, .int .u32 et, .int .u32 ea, .int .u16 ep, .int .u16 ey] : Array Value) 25))).later hb1
          have kd1 := Xd1.2
          have ld1 := Xd1.1
          have Xe1 := (Box.new_at ((w.alloc (.cells #[.bool ctg, .int .u32 cb, .int .u32 ct, .int .u32 ca, .int .u16 cp, .int .u16 cy] 25)).alloc (.cells #[.bool dtg, .int .u32 db, .int .u32 dt, .int .u32 da, .int .u16 dp, .int .u16 dy] 25)) (#[.bool etg, .int .u32 eb, .int .u32 et, .int .u32 ea, .int .u16 ep, .int .u16 ey] : Array Value) 25 (w.heap.size + 2) (by first | rfl | (simp; done) | (simp; omega))).later hb1
          have ke1 := Xe1.2
          have le1 := Xe1.1
          go_wp2_with fail
          ((with_reducible refine (sub_v ctg cb ct ca cp cy dtg db dt da dp dy _ _ s1).mono ?_); rintro e w2 ⟨rfl, hb2⟩)
          have d2 := bt d1 hb2
          have Xc2 := Xc1.later hb2
          have kc2 := Xc2.2
          have lc2 := Xc2.1
          have Xd2 := Xd1.later hb2
          have kd2 := Xd2.2
          have ld2 := Xd2.1
          have Xe2 := Xe1.later hb2
          have ke2 := Xe2.2
          have le2 := Xe2.1
          go_wp2_with fail
          ((with_reducible refine (sub_v dtg db dt da dp dy etg eb et ea ep ey _ _ s2).mono ?_); rintro e w3 ⟨rfl, hb3⟩)
          have d3 := bt d2 hb3
          have Xc3 := Xc2.later hb3
          have kc3 := Xc3.2
          have lc3 := Xc3.1
          have Xd3 := Xd2.later hb3
          have kd3 := Xd3.2
          have ld3 := Xd3.1
          have Xe3 := Xe2.later hb3
          have ke3 := Xe3.2
          have le3 := Xe3.1
          go_upto_region 6 with (fail)
          try simp only [List.append_eq, List.cons_append, List.nil_append]
          refine reg_plain (fun W => Tab W ∧ Below w.heap.size w W ∧ Box W (w.heap.size) #[.bool ctg, .int .u32 cb, .int .u32 ct, .int .u32 ca, .int .u16 cp, .int .u16 cy] ∧ Box W (w.heap.size + 1) #[.bool dtg, .int .u32 db, .int .u32 dt, .int .u32 da, .int .u16 dp, .int .u16 dy] ∧ Box W (w.heap.size + 2) #[.bool etg, .int .u32 eb, .int .u32 et, .int .u32 ea, .int .u16 ep, .int .u16 ey]) ⟨htab.later d3, d3, Xc3, Xd3, Xe3⟩ ?_
          rintro W ⟨T, D, Yc, Yd, Ye⟩
          have Cc := Yc.at_
          have Cd := Yd.at_
          have Ce := Ye.at_
          repeat (go_big_quiet_step (first | (go_at_call 35; exact Later.call (sub_v _ _ _ _ _ _ _ _ _ _ _ _ _ _ (by assumption)))))
          refine wpQuiet_nil ?_
          rintro _ ⟨u, rfl⟩
          go_wp2
          go_ret
          exact ⟨rfl, bt D u.below⟩
      · have s4 : subB db dt dp cb ct cp = false := by
          rcases Bool.eq_false_or_eq_true (subB db dt dp cb ct cp) with h | h
          · obtain ⟨e1, e2, e3⟩ := subB_anti hcp hdp s1 h
            simp [e1, e2, e3] at g1
          · exact h
        go_enter Tryd.func9, Tryd.ntmps9
        go_wp2_with fail
        ((with_reducible refine (known_c _ (htab.later (ba (ba (ba (b0 w) (.cells (#[.bool ctg, .int .u32 cb, .int .u32 ct, .int .u32 ca, .int .u16 cp, .int .u16 cy] : Array Value) 25)) (.cells (#[.bool dtg, .int .u32 db, .int .u32 dt, .int .u32 da, .int .u16 dp, .int .u16 dy] : Array Value) 25)) (.cells (#[.bool etg, .int .u32 eb, .int .u32 et, .int .u32 ea, .int .u16 ep, .int .u16 ey] : Array Value) 25)))).mono ?_); rintro e w1 ⟨rfl, hb1⟩)
        have d1 := bt (ba (ba (ba (b0 w) (.cells (#[.bool ctg, .int .u32 cb, .int .u32 ct, .int .u32 ca, .int .u16 cp, .int .u16 cy] : Array Value) 25)) (.cells (#[.bool dtg, .int .u32 db, .int .u32 dt, .int .u32 da, .int .u16 dp, .int .u16 dy] : Array Value) 25)) (.cells (#[.bool etg, .int .u32 eb, .int .u32 et, .int .u32 ea, .int .u16 ep, .int .u16 ey] : Array Value) 25)) hb1
        have Xc1 := ((Box.alloc ((Box.alloc (Box.new_at w (#[.bool ctg, .int .u32 cb, .int .u32 ct, .int .u32 ca, .int .u16 cp, .int .u16 cy] : Array Value) 25 (w.heap.size) (by first | rfl | (simp; done) | (simp; omega))) (.cells (#[.bool dtg, .int .u32 db, .int .u32 dt, .int .u32 da, .int .u16 dp, .int .u16 dy] : Array Value) 25))) (.cells (#[.bool etg, .int .u32 eb, .int .u32 et, .int .u32 ea, .int .u16 ep, .int .u16 ey] : Array Value) 25))).later hb1
        have kc1 := Xc1.2
        have lc1 := Xc1.1
        have Xd1 := ((Box.alloc (Box.new_at (w.alloc (.cells #[.bool ctg, .int .u32 cb, .int .u32 ct, .int .u32 ca, .int .u16 cp, .int .u16 cy] 25)) (#[.bool dtg, .int .u32 db, .int .u32 dt, .int .u32 da, .int .u16 dp, .int .u16 dy] : Array Value) 25 (w.heap.size + 1) (by first | rfl | (simp; done) | (simp; omega))) (.cells (#[.bool etg, .int .u32 eb, .int .u32 et, .int .u32 ea, .int .u16 ep, .int .u16 ey] : Array Value) 25))).later hb1
        have kd1 := Xd1.2
        have ld1 := Xd1.1
        have Xe1 := (Box.new_at ((w.alloc (.cells #[.bool ctg, .int .u32 cb, .int .u32 ct, .int .u32 ca, .int .u16 cp, .int .u16 cy] 25)).alloc (.cells #[.bool dtg, .int .u32 db, .int .u32 dt, .int .u32 da, .int .u16 dp, .int .u16 dy] 25)) (#[.bool etg, .int .u32 eb, .int .u32 et, .int .u32 ea, .int .u16 ep, .int .u16 ey] : Array Value) 25 (w.heap.size + 2) (by first | rfl | (simp; done) | (simp; omega))).later hb1
        have ke1 := Xe1.2
        have le1 := Xe1.1
        go_wp2_with fail
        ((with_reducible refine (sub_v ctg cb ct ca cp cy dtg db dt da dp dy _ _ s1).mono ?_); rintro e w2 ⟨rfl, hb2⟩)
        have d2 := bt d1 hb2
        have Xc2 := Xc1.later hb2
        have kc2 := Xc2.2
        have lc2 := Xc2.1
        have Xd2 := Xd1.later hb2
        have kd2 := Xd2.2
        have ld2 := Xd2.1
        have Xe2 := Xe1.later hb2
        have ke2 := Xe2.2
        have le2 := Xe2.1
        go_wp2_with fail
        ((with_reducible refine (sub_v dtg db dt da dp dy etg eb et ea ep ey _ _ s2).mono ?_); rintro e w3 ⟨rfl, hb3⟩)
        have d3 := bt d2 hb3
        have Xc3 := Xc2.later hb3
        have kc3 := Xc3.2
        have lc3 := Xc3.1
        have Xd3 := Xd2.later hb3
        have kd3 := Xd3.2
        have ld3 := Xd3.1
        have Xe3 := Xe2.later hb3
        have ke3 := Xe3.2
        have le3 := Xe3.1
        go_upto_region 6 with (fail)
        try simp only [List.append_eq, List.cons_append, List.nil_append]
        refine reg_plain (fun W => Tab W ∧ Below w.heap.size w W ∧ Box W (w.heap.size) #[.bool ctg, .int .u32 cb, .int .u32 ct, .int .u32 ca, .int .u16 cp, .int .u16 cy] ∧ Box W (w.heap.size + 1) #[.bool dtg, .int .u32 db, .int .u32 dt, .int .u32 da, .int .u16 dp, .int .u16 dy] ∧ Box W (w.heap.size + 2) #[.bool etg, .int .u32 eb, .int .u32 et, .int .u32 ea, .int .u16 ep, .int .u16 ey]) ⟨htab.later d3, d3, Xc3, Xd3, Xe3⟩ ?_
        rintro W ⟨T, D, Yc, Yd, Ye⟩
        have Cc := Yc.at_
        have Cd := Yd.at_
        have Ce := Ye.at_
        repeat (go_big_quiet_step (first | (go_at_call 35; exact Later.call (sub_v _ _ _ _ _ _ _ _ _ _ _ _ _ _ (by assumption)))))
        refine wpQuiet_nil ?_
        rintro _ ⟨u, rfl⟩
        go_wp2
        go_ret
        exact ⟨rfl, bt D u.below⟩
  · rcases Bool.eq_false_or_eq_true (cb == db) with g1 | g1
    · rcases Bool.eq_false_or_eq_true (ct == dt) with g2 | g2
      · rcases Bool.eq_false_or_eq_true (cp == dp) with g3 | g3
        · rw [← beq_iff_eq.1 g1, ← beq_iff_eq.1 g2, ← beq_iff_eq.1 g3, s0] at s1
          cases s1
        · go_enter Tryd.func9, Tryd.ntmps9
          go_wp2_with fail
          ((with_reducible refine (known_c _ (htab.later (ba (ba (ba (b0 w) (.cells (#[.bool ctg, .int .u32 cb, .int .u32 ct, .int .u32 ca, .int .u16 cp, .int .u16 cy] : Array Value) 25)) (.cells (#[.bool dtg, .int .u32 db, .int .u32 dt, .int .u32 da, .int .u16 dp, .int .u16 dy] : Array Value) 25)) (.cells (#[.bool etg, .int .u32 eb, .int .u32 et, .int .u32 ea, .int .u16 ep, .int .u16 ey] : Array Value) 25)))).mono ?_); rintro e w1 ⟨rfl, hb1⟩)
          have d1 := bt (ba (ba (ba (b0 w) (.cells (#[.bool ctg, .int .u32 cb, .int .u32 ct, .int .u32 ca, .int .u16 cp, .int .u16 cy] : Array Value) 25)) (.cells (#[.bool dtg, .int .u32 db, .int .u32 dt, .int .u32 da, .int .u16 dp, .int .u16 dy] : Array Value) 25)) (.cells (#[.bool etg, .int .u32 eb, .int .u32 et, .int .u32 ea, .int .u16 ep, .int .u16 ey] : Array Value) 25)) hb1
          have Xc1 := ((Box.alloc ((Box.alloc (Box.new_at w (#[.bool ctg, .int .u32 cb, .int .u32 ct, .int .u32 ca, .int .u16 cp, .int .u16 cy] : Array Value) 25 (w.heap.size) (by first | rfl | (simp; done) | (simp; omega))) (.cells (#[.bool dtg, .int .u32 db, .int .u32 dt, .int .u32 da, .int .u16 dp, .int .u16 dy] : Array Value) 25))) (.cells (#[.bool etg, .int .u32 eb, .int .u32 et, .int .u32 ea, .int .u16 ep, .int .u16 ey] : Array Value) 25))).later hb1
          have kc1 := Xc1.2
          have lc1 := Xc1.1
          have Xd1 := ((Box.alloc (Box.new_at (w.alloc (.cells #[.bool ctg, .int .u32 cb, .int .u32 ct, .int .u32 ca, .int .u16 cp, .int .u16 cy] 25)) (#[.bool dtg, .int .u32 db, .int .u32 dt, .int .u32 da, .int .u16 dp, .int .u16 dy] : Array Value) 25 (w.heap.size + 1) (by first | rfl | (simp; done) | (simp; omega))) (.cells (#[.bool etg, .int .u32 eb, .int .u32 et, .int .u32 ea, .int .u16 ep, .int .u16 ey] : Array Value) 25))).later hb1
          have kd1 := Xd1.2
          have ld1 := Xd1.1
          have Xe1 := (Box.new_at ((w.alloc (.cells #[.bool ctg, .int .u32 cb, .int .u32 ct, .int .u32 ca, .int .u16 cp, .int .u16 cy] 25)).alloc (.cells #[.bool dtg, .int .u32 db, .int .u32 dt, .int .u32 da, .int .u16 dp, .int .u16 dy] 25)) (#[.bool etg, .int .u32 eb, .int .u32 et, .int .u32 ea, .int .u16 ep, .int .u16 ey] : Array Value) 25 (w.heap.size + 2) (by first | rfl | (simp; done) | (simp; omega))).later hb1
          have ke1 := Xe1.2
          have le1 := Xe1.1
          go_wp2_with fail
          ((with_reducible refine (sub_v ctg cb ct ca cp cy dtg db dt da dp dy _ _ s1).mono ?_); rintro e w2 ⟨rfl, hb2⟩)
          have d2 := bt d1 hb2
          have Xc2 := Xc1.later hb2
          have kc2 := Xc2.2
          have lc2 := Xc2.1
          have Xd2 := Xd1.later hb2
          have kd2 := Xd2.2
          have ld2 := Xd2.1
          have Xe2 := Xe1.later hb2
          have ke2 := Xe2.2
          have le2 := Xe2.1
          go_upto_region 6 with (fail)
          try simp only [List.append_eq, List.cons_append, List.nil_append]
          refine reg_plain (fun W => Tab W ∧ Below w.heap.size w W ∧ Box W (w.heap.size) #[.bool ctg, .int .u32 cb, .int .u32 ct, .int .u32 ca, .int .u16 cp, .int .u16 cy] ∧ Box W (w.heap.size + 1) #[.bool dtg, .int .u32 db, .int .u32 dt, .int .u32 da, .int .u16 dp, .int .u16 dy] ∧ Box W (w.heap.size + 2) #[.bool etg, .int .u32 eb, .int .u32 et, .int .u32 ea, .int .u16 ep, .int .u16 ey]) ⟨htab.later d2, d2, Xc2, Xd2, Xe2⟩ ?_
          rintro W ⟨T, D, Yc, Yd, Ye⟩
          have Cc := Yc.at_
          have Cd := Yd.at_
          have Ce := Ye.at_
          repeat (go_big_quiet_step (first | (go_at_call 35; exact Later.call (sub_v _ _ _ _ _ _ _ _ _ _ _ _ _ _ (by assumption)))))
          refine wpQuiet_nil ?_
          rintro _ ⟨u, rfl⟩
          go_wp2
          go_ret
          exact ⟨rfl, bt D u.below⟩
      · go_enter Tryd.func9, Tryd.ntmps9
        go_wp2_with fail
        ((with_reducible refine (known_c _ (htab.later (ba (ba (ba (b0 w) (.cells (#[.bool ctg, .int .u32 cb, .int .u32 ct, .int .u32 ca, .int .u16 cp, .int .u16 cy] : Array Value) 25)) (.cells (#[.bool dtg, .int .u32 db, .int .u32 dt, .int .u32 da, .int .u16 dp, .int .u16 dy] : Array Value) 25)) (.cells (#[.bool etg, .int .u32 eb, .int .u32 et, .int .u32 ea, .int .u16 ep, .int .u16 ey] : Array Value) 25)))).mono ?_); rintro e w1 ⟨rfl, hb1⟩)
        have d1 := bt (ba (ba (ba (b0 w) (.cells (#[.bool ctg, .int .u32 cb, .int .u32 ct, .int .u32 ca, .int .u16 cp, .int .u16 cy] : Array Value) 25)) (.cells (#[.bool dtg, .int .u32 db, .int .u32 dt, .int .u32 da, .int .u16 dp, .int .u16 dy] : Array Value) 25)) (.cells (#[.bool etg, .int .u32 eb, .int .u32 et, .int .u32 ea, .int .u16 ep, .int .u16 ey] : Array Value) 25)) hb1
        have Xc1 := ((Box.alloc ((Box.alloc (Box.new_at w (#[.bool ctg, .int .u32 cb, .int .u32 ct, .int .u32 ca, .int .u16 cp, .int .u16 cy] : Array Value) 25 (w.heap.size) (by first | rfl | (simp; done) | (simp; omega))) (.cells (#[.bool dtg, .int .u32 db, .int .u32 dt, .int .u32 da, .int .u16 dp, .int .u16 dy] : Array Value) 25))) (.cells (#[.bool etg, .int .u32 eb, .int .u32 et, .int .u32 ea, .int .u16 ep, .int .u16 ey] : Array Value) 25))).later hb1
        have kc1 := Xc1.2
        have lc1 := Xc1.1
        have Xd1 := ((Box.alloc (Box.new_at (w.alloc (.cells #[.bool ctg, .int .u32 cb, .int .u32 ct, .int .u32 ca, .int .u16 cp, .int .u16 cy] 25)) (#[.bool dtg, .int .u32 db, .int .u32 dt, .int .u32 da, .int .u16 dp, .int .u16 dy] : Array Value) 25 (w.heap.size + 1) (by first | rfl | (simp; done) | (simp; omega))) (.cells (#[.bool etg, .int .u32 eb, .int .u32 et, .int .u32 ea, .int .u16 ep, .int .u16 ey] : Array Value) 25))).later hb1
        have kd1 := Xd1.2
        have ld1 := Xd1.1
        have Xe1 := (Box.new_at ((w.alloc (.cells #[.bool ctg, .int .u32 cb, .int .u32 ct, .int .u32 ca, .int .u16 cp, .int .u16 cy] 25)).alloc (.cells #[.bool dtg, .int .u32 db, .int .u32 dt, .int .u32 da, .int .u16 dp, .int .u16 dy] 25)) (#[.bool etg, .int .u32 eb, .int .u32 et, .int .u32 ea, .int .u16 ep, .int .u16 ey] : Array Value) 25 (w.heap.size + 2) (by first | rfl | (simp; done) | (simp; omega))).later hb1
        have ke1 := Xe1.2
        have le1 := Xe1.1
        go_wp2_with fail
        ((with_reducible refine (sub_v ctg cb ct ca cp cy dtg db dt da dp dy _ _ s1).mono ?_); rintro e w2 ⟨rfl, hb2⟩)
        have d2 := bt d1 hb2
        have Xc2 := Xc1.later hb2
        have kc2 := Xc2.2
        have lc2 := Xc2.1
        have Xd2 := Xd1.later hb2
        have kd2 := Xd2.2
        have ld2 := Xd2.1
        have Xe2 := Xe1.later hb2
        have ke2 := Xe2.2
        have le2 := Xe2.1
        go_upto_region 6 with (fail)
        try simp only [List.append_eq, List.cons_append, List.nil_append]
        refine reg_plain (fun W => Tab W ∧ Below w.heap.size w W ∧ Box W (w.heap.size) #[.bool ctg, .int .u32 cb, .int .u32 ct, .int .u32 ca, .int .u16 cp, .int .u16 cy] ∧ Box W (w.heap.size + 1) #[.bool dtg, .int .u32 db, .int .u32 dt, .int .u32 da, .int .u16 dp, .int .u16 dy] ∧ Box W (w.heap.size + 2) #[.bool etg, .int .u32 eb, .int .u32 et, .int .u32 ea, .int .u16 ep, .int .u16 ey]) ⟨htab.later d2, d2, Xc2, Xd2, Xe2⟩ ?_
        rintro W ⟨T, D, Yc, Yd, Ye⟩
        have Cc := Yc.at_
        have Cd := Yd.at_
        have Ce := Ye.at_
        repeat (go_big_quiet_step (first | (go_at_call 35; exact Later.call (sub_v _ _ _ _ _ _ _ _ _ _ _ _ _ _ (by assumption)))))
        refine wpQuiet_nil ?_
        rintro _ ⟨u, rfl⟩
        go_wp2
        go_ret
        exact ⟨rfl, bt D u.below⟩
    · go_enter Tryd.func9, Tryd.ntmps9
      go_wp2_with fail
      ((with_reducible refine (known_c _ (htab.later (ba (ba (ba (b0 w) (.cells (#[.bool ctg, .int .u32 cb, .int .u32 ct, .int .u32 ca, .int .u16 cp, .int .u16 cy] : Array Value) 25)) (.cells (#[.bool dtg, .int .u32 db, .int .u32 dt, .int .u32 da, .int .u16 dp, .int .u16 dy] : Array Value) 25)) (.cells (#[.bool etg, .int .u32 eb, .int .u32 et, .int .u32 ea, .int .u16 ep, .int .u16 ey] : Array Value) 25)))).mono ?_); rintro e w1 ⟨rfl, hb1⟩)
      have d1 := bt (ba (ba (ba (b0 w) (.cells (#[.bool ctg, .int .u32 cb, .int .u32 ct, .int .u32 ca, .int .u16 cp, .int .u16 cy] : Array Value) 25)) (.cells (#[.bool dtg, .int .u32 db, .int .u32 dt, .int .u32 da, .int .u16 dp, .int .u16 dy] : Array Value) 25)) (.cells (#[.bool etg, .int .u32 eb, .int .u32 et, .int .u32 ea, .int .u16 ep, .int .u16 ey] : Array Value) 25)) hb1
      have Xc1 := ((Box.alloc ((Box.alloc (Box.new_at w (#[.bool ctg, .int .u32 cb, .int .u32 ct, .int .u32 ca, .int .u16 cp, .int .u16 cy] : Array Value) 25 (w.heap.size) (by first | rfl | (simp; done) | (simp; omega))) (.cells (#[.bool dtg, .int .u32 db, .int .u32 dt, .int .u32 da, .int .u16 dp, .int .u16 dy] : Array Value) 25))) (.cells (#[.bool etg, .int .u32 eb, .int .u32 et, .int .u32 ea, .int .u16 ep, .int .u16 ey] : Array Value) 25))).later hb1
      have kc1 := Xc1.2
      have lc1 := Xc1.1
      have Xd1 := ((Box.alloc (Box.new_at (w.alloc (.cells #[.bool ctg, .int .u32 cb, .int .u32 ct, .int .u32 ca, .int .u16 cp, .int .u16 cy] 25)) (#[.bool dtg, .int .u32 db, .int .u32 dt, .int .u32 da, .int .u16 dp, .int .u16 dy] : Array Value) 25 (w.heap.size + 1) (by first | rfl | (simp; done) | (simp; omega))) (.cells (#[.bool etg, .int .u32 eb, .int .u32 et, .int .u32 ea, .int .u16 ep, .int .u16 ey] : Array Value) 25))).later hb1
      have kd1 := Xd1.2
      have ld1 := Xd1.1
      have Xe1 := (Box.new_at ((w.alloc (.cells #[.bool ctg, .int .u32 cb, .int .u32 ct, .int .u32 ca, .int .u16 cp, .int .u16 cy] 25)).alloc (.cells #[.bool dtg, .int .u32 db, .int .u32 dt, .int .u32 da, .int .u16 dp, .int .u16 dy] 25)) (#[.bool etg, .int .u32 eb, .int .u32 et, .int .u32 ea, .int .u16 ep, .int .u16 ey] : Array Value) 25 (w.heap.size + 2) (by first | rfl | (simp; done) | (simp; omega))).later hb1
      have ke1 := Xe1.2
      have le1 := Xe1.1
      go_wp2_with fail
      ((with_reducible refine (sub_v ctg cb ct ca cp cy dtg db dt da dp dy _ _ s1).mono ?_); rintro e w2 ⟨rfl, hb2⟩)
      have d2 := bt d1 hb2
      have Xc2 := Xc1.later hb2
      have kc2 := Xc2.2
      have lc2 := Xc2.1
      have Xd2 := Xd1.later hb2
      have kd2 := Xd2.2
      have ld2 := Xd2.1
      have Xe2 := Xe1.later hb2
      have ke2 := Xe2.2
      have le2 := Xe2.1
      go_upto_region 6 with (fail)
      try simp only [List.append_eq, List.cons_append, List.nil_append]
      refine reg_plain (fun W => Tab W ∧ Below w.heap.size w W ∧ Box W (w.heap.size) #[.bool ctg, .int .u32 cb, .int .u32 ct, .int .u32 ca, .int .u16 cp, .int .u16 cy] ∧ Box W (w.heap.size + 1) #[.bool dtg, .int .u32 db, .int .u32 dt, .int .u32 da, .int .u16 dp, .int .u16 dy] ∧ Box W (w.heap.size + 2) #[.bool etg, .int .u32 eb, .int .u32 et, .int .u32 ea, .int .u16 ep, .int .u16 ey]) ⟨htab.later d2, d2, Xc2, Xd2, Xe2⟩ ?_
      rintro W ⟨T, D, Yc, Yd, Ye⟩
      have Cc := Yc.at_
      have Cd := Yd.at_
      have Ce := Ye.at_
      repeat (go_big_quiet_step (first | (go_at_call 35; exact Later.call (sub_v _ _ _ _ _ _ _ _ _ _ _ _ _ _ (by assumption)))))
      refine wpQuiet_nil ?_
      rintro _ ⟨u, rfl⟩
      go_wp2
      go_ret
      exact ⟨rfl, bt D u.below⟩

/-! ### The row -/
set_option maxRecDepth 100000 in
theorem contract (H : Type) (enc : TypeId × Value → H) (W : World) (base : Nat) (args : Array Value) (ds gs : List (DataW H)) (before : List MemPlace)
    (hval : ∀ (j : Nat) t v, Tryd.f9.params[j]? = some t → args[j]? = some v → Value.okWide Tryd.prog W .any base t v)
    (hW : DataW.Whole enc Tryd.prog Tryd.f9.params.toList Rows.capOrderSpec.vars false W args.toList ds gs before) (hL : laidMetH Tryd.prog Rows.capOrderRow.laid W) :
    Calls Tryd.prog 9 args W fun e W' => ∃ v, e = .returned v ∧ Rows.capOrderSpec.post enc Tryd.prog Tryd.f9 false true false false W args v W' := by
  have hW' := hW
  obtain ⟨p, q, hA0, hV, rfl, hfz, hnd⟩ := hW
  have hA : DataW.TrodAll enc Tryd.prog W 0 (fun _ => true) true Tryd.f9.params.toList args.toList ds p := hA0
  rw [Tryd.params9] at hA hval
  obtain ⟨v0, vs0, d0, ds0, p0, q0, hargs, rfl, rfl, h0, r0⟩ := trodAll_cons hA
  obtain ⟨v1, vs1, d1, ds1, p1, q1, rfl, rfl, rfl, h1, r1⟩ := trodAll_cons r0
  obtain ⟨v2, vs2, d2, ds2, p2, q2, rfl, rfl, rfl, h2, r2⟩ := trodAll_cons r1
  obtain ⟨rfl, rfl, rfl⟩ := trodAll_nil r2
  obtain rfl : args = #[v0, v1, v2] := by cases args; simp_all
  obtain ⟨rfl, rfl⟩ := trodVars_none hV
  have k0 := h0
  have l0 : ∀ x ∈ p0, x.block < W.heap.size := by obtain ⟨m, hm⟩ := k0; exact DataW.trod_lt m _ _ _ hm
  obtain ⟨ctg, cb, ct, ca, cp, cy, rfl, hcb, hct, hca, hcp, hcy⟩ := open_cap (hval 0 25 v0 rfl rfl) h0
  have k1 := h1
  have l1 : ∀ x ∈ p1, x.block < W.heap.size := by obtain ⟨m, hm⟩ := k1; exact DataW.trod_lt m _ _ _ hm
  obtain ⟨dtg, db, dt, da, dp, dy, rfl, hdb, hdt, hda, hdp, hdy⟩ := open_cap (hval 1 25 v1 rfl rfl) h1
  have k2 := h2
  have l2 : ∀ x ∈ p2, x.block < W.heap.size := by obtain ⟨m, hm⟩ := k2; exact DataW.trod_lt m _ _ _ hm
  obtain ⟨etg, eb, et, ea, ep, ey, rfl, heb, het, hea, hep, hey⟩ := open_cap (hval 2 25 v2 rfl rfl) h2
  clear hA0
  refine (walk ctg cb ct ca cp cy dtg db dt da dp dy etg eb et ea ep ey W (tab_of hL) hcb hct hca hcp hcy hdb hdt hda hdp hdy heb het hea hep hey).mono fun e W' ⟨he, bel⟩ => ?_
  subst he
  exact ⟨_, rfl, _, _, _, [], _, [], hW', trodAll_mk1 (shut_bool Tryd.underlying4 _), (trodAll_cons_mk (Below.trod laidOut (by kernel_rfl) (of_decide_eq_true (by kernel_rfl)) k0 bel l0) (trodAll_cons_mk (Below.trod laidOut (by kernel_rfl) (of_decide_eq_true (by kernel_rfl)) k1 bel l1) (trodAll_cons_mk (Below.trod laidOut (by kernel_rfl) (of_decide_eq_true (by kernel_rfl)) k2 bel l2) trodAll_mk0))), rfl, bel.frame _, fun h => by cases h⟩

theorem laid_met (os : Os) : laidMet Tryd.prog Rows.capOrderRow.laid ((laidWorld os).forCall (fun _ _ => 0) ⟨#[], #[.agg #[.bool false, .int .u32 0, .int .u32 0, .int .u32 0, .int .u16 0, .int .u16 0], .agg #[.bool false, .int .u32 0, .int .u32 0, .int .u32 0, .int .u16 0, .int .u16 0], .agg #[.bool false, .int .u32 0, .int .u32 0, .int .u32 0, .int .u16 0, .int .u16 0]], []⟩).memory :=
  laidMet_of_run' 8 (by kernel_rfl) (by kernel_rfl)
theorem reads (os : Os) {H : Type} (enc : TypeId × Value → H) : ∃ places, DataW.whole enc Tryd.prog ((laidWorld os).forCall (fun _ _ => 0) ⟨#[], #[.agg #[.bool false, .int .u32 0, .int .u32 0, .int .u32 0, .int .u16 0, .int .u16 0], .agg #[.bool false, .int .u32 0, .int .u32 0, .int .u32 0, .int .u16 0, .int .u16 0], .agg #[.bool false, .int .u32 0, .int .u32 0, .int .u32 0, .int .u16 0, .int .u16 0]], []⟩).memory Tryd.f9.params.toList Rows.capOrderSpec.vars false (#[.agg #[.bool false, .int .u32 0, .int .u32 0, .int .u32 0, .int .u16 0, .int .u16 0], .agg #[.bool false, .int .u32 0, .int .u32 0, .int .u32 0, .int .u16 0, .int .u16 0], .agg #[.bool false, .int .u32 0, .int .u32 0, .int .u32 0, .int .u16 0, .int .u16 0]] : Array Value).toList 8 = some ([.agg [.lit (.bool false), .lit (.int .u32 0), .lit (.int .u32 0), .lit (.int .u32 0), .lit (.int .u16 0), .lit (.int .u16 0)], .agg [.lit (.bool false), .lit (.int .u32 0), .lit (.int .u32 0), .lit (.int .u32 0), .lit (.int .u16 0), .lit (.int .u16 0)], .agg [.lit (.bool false), .lit (.int .u32 0), .lit (.int .u32 0), .lit (.int .u32 0), .lit (.int .u16 0), .lit (.int .u16 0)]], [], places) :=
  ⟨[], by kernel_rfl⟩

set_option maxRecDepth 100000 in
theorem lifted (os : Os) (started : os.Started) (H : Type) (enc : TypeId × Value → H) (F : Stop.Interp) :
    ReturnsInHanded {} Tryd.checked os 9 .any ((OpenSpec.ofChange Rows.capOrderSpec).preRow enc Tryd.prog Tryd.f9 Rows.capOrderRow.domain false Rows.capOrderRow.laid) (((OpenSpec.ofChange Rows.capOrderSpec).at F).post enc Tryd.prog Tryd.f9 false true false false) := by
  obtain ⟨places, hx⟩ := reads os enc
  refine returnsInHanded_of_row (C := Tryd.checked) (s := OpenSpec.ofChange Rows.capOrderSpec) own started (by kernel_rfl) Tryd.func9
    (witness_row_at (enc := enc) (C := Tryd.checked) false (laidWorld os) #[.agg #[.bool false, .int .u32 0, .int .u32 0, .int .u32 0, .int .u16 0, .int .u16 0], .agg #[.bool false, .int .u32 0, .int .u32 0, .int .u32 0, .int .u16 0, .int .u16 0], .agg #[.bool false, .int .u32 0, .int .u32 0, .int .u32 0, .int .u16 0, .int .u16 0]] rfl (by kernel_rfl) (by kernel_rfl) (by kernel_rfl)
      (OpenSpec.preRow_of_cond 8 hx (by kernel_rfl) (fun k hk => by cases hk) (by kernel_rfl) (laid_met os))) ?_
  intro W base args ds gs before hval hW _ _ _ hL _ _
  exact contract H enc W base args ds gs before hval hW hL

theorem said : Rows.CapOrderSaid :=
  OpenClaim.holds_of_cond 9 Tryd.f9 rfl rfl rfl rfl rfl rfl rfl ⟨rfl, rfl, rfl, rfl, rfl⟩ rfl rfl rfl rfl rfl (by kernel_rfl) Tryd.func9 (by kernel_rfl)
    (of_decide_eq_true (by kernel_rfl)) (by unfold Func.isWrapper; first | (rw [if_pos (by decide +kernel)]; kernel_rfl) | (rw [if_neg (by decide +kernel)]; exact ⟨rfl, rfl⟩))
    (fun os started H enc _ F => by rw [OpenClaim.pre_eq_preRow]; exact lifted os started H enc F)

theorem plain (f : FuncId) (fn : Func) (hf : Tryd.pinned.checked.prog.funcNamed "hasp/hasplaw2.CapOrder" = some f) (hfn : Tryd.pinned.checked.prog.funcs[f]? = some fn) :
    false = Tryd.pinned.checked.prog.looks [] ∧ ∀ (j : Nat) t, fn.params[j]? = some t → Tryd.pinned.checked.prog.wantsStandIn t = false := by
  obtain rfl : f = 9 := Option.some.inj ((show Tryd.prog.funcNamed "hasp/hasplaw2.CapOrder" = some 9 by kernel_rfl).symm.trans hf) |>.symm
  obtain rfl : fn = Tryd.f9 := (Option.some.inj (Tryd.func9.symm.trans hfn)).symm
  refine ⟨by kernel_rfl, fun j t ht => ?_⟩
  rw [Tryd.params9] at ht
  have hm := Array.mem_of_getElem? ht
  simp only [List.mem_toArray, List.mem_cons, List.not_mem_nil, or_false] at hm
  rcases hm with rfl | rfl | rfl
  · exact (show Tryd.prog.wantsStandIn 25 = false by kernel_rfl)
  · exact (show Tryd.prog.wantsStandIn 25 = false by kernel_rfl)
  · exact (show Tryd.prog.wantsStandIn 25 = false by kernel_rfl)

/-- The card. -/
theorem card : Rows.CapOrderCardSaid :=
  Claim7.holds_tied_plain_at .later [] _ _ _ _ said (fun _ h => by cases h) (by kernel_rfl) (fun _ h => by cases h) capOrder_row_tie rfl ⟨rfl, rfl⟩ (by kernel_rfl) rfl plain (by kernel_rfl)
end Go.Proofs.YtfhmkmbdfeoegaaDoor.lawCapOrder
