/- What a play leaves: the law answers true and leaves its arguments alone. No condition beyond the row's own. -/
import Derived.Test.YtfjknnhhgnnpaaaG
import Derived.Deep.RegionHeld3
namespace Go.Proofs.Ytfjknnhhgnnpaaa.lawRegsPlays
open Go.ChangeShapes Go.WideShapes Go.ChangeAt Go.RowKit
set_option linter.unusedVariables false
set_option linter.unusedSimpArgs false

theorem zv30 : ∀ w, (zeroValue 30).run Try.prog w = .ok (.agg #[.bool false, .int .u32 0, .int .u32 0, .int .u32 0, .int .u16 0, .int .u16 0, .bool false, .int .u32 0, .int .u32 0, .int .u32 0, .int .u16 0, .int .u16 0, .bool false, .int .u32 0, .int .u32 0, .int .u32 0, .int .u16 0, .int .u16 0, .bool false, .int .u32 0, .int .u32 0, .int .u32 0, .int .u16 0, .int .u16 0, .bool false, .int .u32 0, .int .u32 0, .int .u32 0, .int .u16 0, .int .u16 0, .bool false, .int .u32 0, .int .u32 0, .int .u32 0, .int .u16 0, .int .u16 0, .bool false, .int .u32 0, .int .u32 0, .int .u32 0, .int .u16 0, .int .u16 0, .bool false, .int .u32 0, .int .u32 0, .int .u32 0, .int .u16 0, .int .u16 0, .bool false, .int .u32 0, .int .u32 0, .int .u32 0, .int .u16 0, .int .u16 0, .bool false, .int .u32 0, .int .u32 0, .int .u32 0, .int .u16 0, .int .u16 0, .bool false, .int .u32 0, .int .u32 0, .int .u32 0, .int .u16 0, .int .u16 0, .bool false, .int .u32 0, .int .u32 0, .int .u32 0, .int .u16 0, .int .u16 0, .bool false, .int .u32 0, .int .u32 0, .int .u32 0, .int .u16 0, .int .u16 0, .bool false, .int .u32 0, .int .u32 0, .int .u32 0, .int .u16 0, .int .u16 0, .bool false, .int .u32 0, .int .u32 0, .int .u32 0, .int .u16 0, .int .u16 0, .bool false, .int .u32 0, .int .u32 0, .int .u32 0, .int .u16 0, .int .u16 0]) w := fun w => by kernel_rfl
theorem Acts.later {w w1 : World} {b off n : Nat} {ac : Nat → Ac} (h : Acts w b off ac n) (hb : Below w.heap.size w w1) (j : Nat) (hj : j < n) :
  w1.cell? ⟨b, off + j * 9, none⟩ = some (.int .i64 (ac j).op) ∧ w1.cell? ⟨b, off + j * 9 + 1, none⟩ = some (.int .i64 (ac j).i) ∧ w1.cell? ⟨b, off + j * 9 + 2, none⟩ = some (.bool (ac j).c.tg) ∧ w1.cell? ⟨b, off + j * 9 + 3, none⟩ = some (.int .u32 (ac j).c.b) ∧
  w1.cell? ⟨b, off + j * 9 + 4, none⟩ = some (.int .u32 (ac j).c.t) ∧ w1.cell? ⟨b, off + j * 9 + 5, none⟩ = some (.int .u32 (ac j).c.a) ∧ w1.cell? ⟨b, off + j * 9 + 6, none⟩ = some (.int .u16 (ac j).c.p) ∧ w1.cell? ⟨b, off + j * 9 + 7, none⟩ = some (.int .u16 (ac j).c.y) ∧
  w1.cell? ⟨b, off + j * 9 + 8, none⟩ = some (ac j).sv := by
  obtain ⟨⟨h0, h1, h2, h3, h4, h5, h6, h7, h8⟩, -⟩ := h j hj
  have lt := World.block_lt_of_cell? w _ h0
  have key : ∀ o, w1.cell? ⟨b, o, none⟩ = w.cell? ⟨b, o, none⟩ := fun o => hb.cell (p := ⟨b, o, none⟩) lt
  simp only [key]
  exact ⟨h0, h1, h2, h3, h4, h5, h6, h7, h8⟩

theorem of_c (x : Cp) (w : World) :
    Calls Try.prog 8 #[.agg #[.bool x.tg, .int .u32 x.b, .int .u32 x.t, .int .u32 x.a, .int .u16 x.p, .int .u16 x.y]] w fun e w' => e = .returned (.agg #[.bool x.tg, .int .u32 x.b, .int .u32 x.t, .int .u32 x.a, .int .u16 x.p, .int .u16 x.y]) ∧ Below w.heap.size w w' := by
  obtain ⟨x0, x1, x2, x3, x4, x5⟩ := x
  dsimp only
  go_enter Try.func8, Try.ntmps8
  go_wp2
  refine bodyPost_ret (v := .agg #[.bool x0, .int .u32 x1, .int .u32 x2, .int .u32 x3, .int .u16 x4, .int .u16 x5]) (by simp [results, Try.results8, go_sem]) rfl ⟨rfl, by repeat (first | (with_reducible exact b0 _) | (with_reducible refine bs ?_ (by first | (simp; done) | (simp; omega)) _) | (with_reducible refine ba ?_ _) | (with_reducible refine Below.drew ?_))⟩

theorem take_step (xs : List Int) (q : Nat) (h : q < xs.length) (j : Int) : (xs.take (q + 1)).contains j = ((xs.take q).contains j || xs.getD q 0 == j) := by
  rw [List.take_add_one, List.getElem?_eq_getElem h, List.getD_eq_getElem?_getD, List.getElem?_eq_getElem h]
  rw [Bool.eq_iff_iff, List.contains_iff_mem, Bool.or_eq_true, List.contains_iff_mem, List.mem_append]
  simp only [Option.toList_some, List.mem_singleton, Option.getD_some, beq_iff_eq]
  exact or_congr Iff.rfl eq_comm

set_option maxRecDepth 20000 in
set_option maxHeartbeats 2000000 in
theorem walk (b off n cap : Nat) (ac : Nat → Ac) (idx : Int) (w : World) (hac : Acts w b off ac n) (hn : n ≤ 60) (hnc : n ≤ cap) :
    Calls Try.prog 3 #[.slice (some ⟨b, off, none⟩) n cap, .int .i64 idx] w fun e w' => e = .returned (.bool true) ∧ Below w.heap.size w w' := by
  have q0 : (n : Int) ≤ 60 := by omega
  have q1 : ¬ (60 : Int) < (n : Int) := by omega
  have zv := zv30
  go_enter Try.func3, Try.ntmps3
  go_wp2_with fail
  ((with_reducible refine (known_c _).mono ?_); rintro e w1 ⟨rfl, hb1⟩)
  go_wp2_with fail
  ((with_reducible refine (new_c _).mono ?_); rintro e w2 ⟨g0, rfl, hg0, B2, hb2⟩)
  have d2 := bt hb1 hb2
  have L2 := B2.lt
  have hgw : w.heap.size ≤ g0 := Nat.le_trans hb1.size hg0
  have hHw : w.heap.size ≤ w2.heap.size := d2.size
  go_wp2_with fail
  go_loopw [5, 7] (fun fv i wr => ∃ (k g : Nat) (C : Nat → Cp), i = .int .i64 (k : Int) ∧ fv = .pointer (some ⟨g, 0, none⟩) ∧ k ≤ n ∧ Below w.heap.size w wr ∧ Blk wr g (fileC C) 48 ∧ Blk wr w2.heap.size (fileC C) 30 ∧ C 0 = Cp.int 0 ∧ w.heap.size ≤ g ∧ g ≠ w2.heap.size) (fun _ i _ => ((n : Int) - intOf i).toNat)
  case atStart => exact ⟨0, g0, fun _ => Cp.int 0, rfl, rfl, by omega, ba d2 _, B2.alloc _, by rw [← zeroC_eq]; exact Blk.new _ _ _ _ rfl, rfl, hgw, by omega⟩
  case round =>
    obtain ⟨k, g, C, rfl, rfl, hk, D, B, BH, hC0, hg, hgH⟩ := hrel
    by_cases h : k = n
    · subst h
      obtain ⟨wo, rfl⟩ : ∃ wo : World, wo = wr := ⟨_, rfl⟩
      have zv4 := zv40
      have hsz : (fileC C).toList.length = 96 := by rw [Array.length_toList]; exact fileC_size C
      have hsz2 : (fileC C).size = 96 := fileC_size C
      have IZ : ∀ W, Calls Try.prog 12 #[.int .u32 0] W fun e w' => e = .returned (.agg #[.bool false, .int .u32 0, .int .u32 0, .int .u32 0, .int .u16 0, .int .u16 0]) ∧ Below W.heap.size W w' := fun W => int_c 0 W
      go_wp2_with fail
      (refine (all_c g C _ B).mono ?_; rintro e w4 ⟨rfl, hb4⟩)
      obtain ⟨w5, hst, A5, bel5⟩ := store_new 40 C w4
      have B5 := (B.later hb4).later bel5
      have H5 := (BH.later hb4).later bel5
      have D5 := bt (bt D hb4) bel5
      clear B BH D hb4 bel5 hac
      go_wp2_with fail
      go_loopw [14] (fun jv wq => ∃ j : Nat, jv = .int .i64 (j : Int) ∧ j ≤ 16 ∧ Below w.heap.size w wq ∧ Blk wq g (fileC C) 48 ∧ Blk wq w2.heap.size (fileC C) 30 ∧ Blk wq w4.heap.size (fileC C) 40) (fun jv _ => (16 - intOf jv).toNat)
      case atStart => exact ⟨0, rfl, by omega, D5, B5, H5, A5⟩
      case round =>
        obtain ⟨j, rfl, hj, D', B', H', A'⟩ := hrel
        clear D5 B5 H5 A5 hst
        by_cases h16 : j = 16
        · subst h16
          by_cases r0 : 0 ≤ idx
          · by_cases r1 : idx < 16
            · go_wp2_with fail
              go_ret
              exact ⟨rfl, D'⟩
            · have GN : ∀ w1, Calls Try.prog 14 #[.pointer (some ⟨g, 0, none⟩), .int .i64 idx] w1 fun e w' => e = .returned (.agg #[.bool false, .int .u32 0, .int .u32 0, .int .u32 0, .int .u16 0, .int .u16 0]) ∧ Below w1.heap.size w1 w' := fun w1 => get_no g idx w1 (by omega)
              go_wp2_with (first
                | (go_at_call 14; (with_reducible refine (GN _).mono ?_); rintro e w6 ⟨rfl, hb6⟩)
                | (go_at_call 12; (with_reducible refine (IZ _).mono ?_); rintro e w7 ⟨rfl, hb7⟩))
              go_ret
              exact ⟨rfl, bt (bt D' hb6) hb7⟩
          · have GN : ∀ w1, Calls Try.prog 14 #[.pointer (some ⟨g, 0, none⟩), .int .i64 idx] w1 fun e w' => e = .returned (.agg #[.bool false, .int .u32 0, .int .u32 0, .int .u32 0, .int .u16 0, .int .u16 0]) ∧ Below w1.heap.size w1 w' := fun w1 => get_no g idx w1 (by omega)
            go_wp2_with (first
              | (go_at_call 14; (with_reducible refine (GN _).mono ?_); rintro e w6 ⟨rfl, hb6⟩)
              | (go_at_call 12; (with_reducible refine (IZ _).mono ?_); rintro e w7 ⟨rfl, hb7⟩))
            go_ret
            exact ⟨rfl, bt (bt D' hb6) hb7⟩
        · have j1 : (j : Int) < 16 := by omega
          have j2 : (0 : Int) ≤ (j : Int) := by omega
          have j3 : j < 16 := by omega
          go_upto_region 41 with (fail)
          try simp only [List.append_eq, List.cons_append, List.nil_append]
          refine reg_draw (by kernel_rfl) (by kernel_rfl) (fun W => Below w.heap.size w W ∧ Blk W g (fileC C) 48 ∧ Blk W w2.heap.size (fileC C) 30 ∧ Blk W w4.heap.size (fileC C) 40) ⟨D', B', H', A'⟩ ?_
          rintro W ⟨DW, YG, YH, YA⟩
          have GV : ∀ u : Later W, Calls Try.prog 14 #[.pointer (some ⟨g, 0, none⟩), .int .i64 (j : Int)] u.w fun e w' => e = .returned (C j).val ∧ Below u.w.heap.size u.w w' := fun u => by
            by_cases h0 : j = 0
            · subst h0
              rw [hC0]
              exact get_no g ((0 : Nat) : Int) u.w (by omega)
            · exact get_c g j C u.w (YG.later u.below) (by omega) j3
          have NX : ∀ u : Later W, Blk u.w g (fileC C) 48 ∧ Blk u.w w2.heap.size (fileC C) 30 ∧ Blk u.w w4.heap.size (fileC C) 40 := fun u => ⟨YG.later u.below, YH.later u.below, YA.later u.below⟩
          obtain ⟨f0, f1, f2, f3, f4, f5⟩ := fileC_get C j j3
          have s0 := fun u : Later W => ((YH.later u.below).cell _).trans f0
          have s1 := fun u : Later W => ((YH.later u.below).cell _).trans f1
          have s2 := fun u : Later W => ((YH.later u.below).cell _).trans f2
          have s3 := fun u : Later W => ((YH.later u.below).cell _).trans f3
          have s4 := fun u : Later W => ((YH.later u.below).cell _).trans f4
          have s5 := fun u : Later W => ((YH.later u.below).cell _).trans f5
          have t0 := fun u : Later W => ((YA.later u.below).cell _).trans f0
          have t1 := fun u : Later W => ((YA.later u.below).cell _).trans f1
          have t2 := fun u : Later W => ((YA.later u.below).cell _).trans f2
          have t3 := fun u : Later W => ((YA.later u.below).cell _).trans f3
          have t4 := fun u : Later W => ((YA.later u.below).cell _).trans f4
          have t5 := fun u : Later W => ((YA.later u.below).cell _).trans f5
          have NXh : Hid (∀ u : Later W, Blk u.w g (fileC C) 48 ∧ Blk u.w w2.heap.size (fileC C) 30 ∧ Blk u.w w4.heap.size (fileC C) 40) := NX
          clear NX f0 f1 f2 f3 f4 f5 YG YH YA D' B' H' A'
          have OF : ∀ (x : Cp) w1, Calls Try.prog 8 #[.agg #[.bool x.tg, .int .u32 x.b, .int .u32 x.t, .int .u32 x.a, .int .u16 x.p, .int .u16 x.y]] w1 fun e w' => e = .returned (.agg #[.bool x.tg, .int .u32 x.b, .int .u32 x.t, .int .u32 x.a, .int .u16 x.p, .int .u16 x.y]) ∧ Below w1.heap.size w1 w' := of_c
          have OFj := OF (C j)
          generalize C j = x at *
          obtain ⟨x0, x1, x2, x3, x4, x5⟩ := x
          unfold Cp.val at GV
          dsimp only at *
          repeat (go_big_quiet_step (first | (go_at_call 8; with_reducible exact Later.call (OFj _)) | (go_at_call 14; with_reducible exact Later.call (GV _))))
          refine wpQuiet_nil ?_
          rintro _ ⟨u, rfl⟩
          have NU := NXh.out u
          go_wp2_with fail
          exact ⟨⟨j + 1, by simp, by omega, bt DW u.below, NU.1, NU.2.1, NU.2.2⟩, by simp [intOf]; omega⟩
    · have h1 : (k : Int) < (n : Int) := by omega
      have h2 : (0 : Int) ≤ (k : Int) := by omega
      obtain ⟨c0, c1, c2, c3, c4, c5, c6, c7, c8⟩ := Acts.later hac D k (by omega)
      obtain ⟨-, LL, i0, i1⟩ := hac k (by omega)
      generalize ac k = x at c0 c1 c2 c3 c4 c5 c6 c7 c8 LL i0 i1
      obtain ⟨op, ri, ⟨x0, x1, x2, x3, x4, x5⟩, sv, xs⟩ := x
      dsimp only at c0 c1 c2 c3 c4 c5 c6 c7 c8 LL i0 i1
      have hkeep := fun (g : Nat) (C : Nat → Cp) (w1 : World) => keep_any g w.heap.size sv xs C w w1
      obtain ⟨a, m, cp, rfl, hm, LL'⟩ := id LL
      have hbl : b < wr.heap.size := World.block_lt_of_cell? wr _ c0
      by_cases h40 : 40 < m
      · have h3 : (40 : Int) < (m : Int) := by omega
        go_wp2
        go_ret
        exact ⟨rfl, ba D _⟩
      · have h3 : ¬ (40 : Int) < (m : Int) := by omega
        have K9 : ∀ (g : Nat) (C : Nat → Cp) (w1 : World), Blk w1 g (fileC C) 48 → Below w.heap.size w w1 → w.heap.size ≤ g → Calls Try.prog 9 #[.pointer (some ⟨g, 0, none⟩), .slice a m cp] w1 fun e w' => e = .returned (.tuple #[]) ∧ Blk w' g (fileC (keepC C xs 16)) 48 ∧ w1.grownBy w' (some g) :=
          fun g C w1 hB hb hg => hkeep g C w1 hB LL (Nat.le_refl _) hb hg (by omega)
        clear hkeep
        by_cases o1 : op = 1
        · subst o1
          have lB := B.lt
          have lH := BH.lt
          have dw := D.size
          by_cases hr : 0 < ri ∧ ri < 16
          · obtain ⟨j, rfl⟩ : ∃ j : Nat, ri = (j : Int) := ⟨ri.toNat, by omega⟩
            obtain ⟨hr0, hr1⟩ := hr
            have j0 : 0 < j := by omega
            have j1 : j < 16 := by omega
            have j2 : (0 : Int) ≤ (j : Int) := by omega
            have ST : ∀ w1, Blk w1 g (fileC C) 48 → Calls Try.prog 7 #[.pointer (some ⟨g, 0, none⟩), .int .i64 (j : Int), .agg #[.bool x0, .int .u32 x1, .int .u32 x2, .int .u32 x3, .int .u16 x4, .int .u16 x5]] w1 fun e w' => e = .returned (.tuple #[]) ∧ Blk w' g (fileC (upd C j ⟨x0, x1, x2, x3, x4, x5⟩)) 48 ∧ w1.grownBy w' (some g) :=
              fun w1 hB => set_c g j C ⟨x0, x1, x2, x3, x4, x5⟩ w1 hB j0 j1
            have A := Blk.new wr #[.int .i64 1, .int .i64 (j : Int), .bool x0, .int .u32 x1, .int .u32 x2, .int .u32 x3, .int .u16 x4, .int .u16 x5, .slice a m cp] 34 _ rfl
            go_wp2_with fail
            ((with_reducible refine (ST _ (B.alloc _)).mono ?_); rintro e w4 ⟨rfl, B4, G4⟩)
            have A4 := A.grown G4 (by intro e; have h : wr.heap.size = g := Option.some.inj e; omega)
            have H4 := (BH.alloc _).grown G4 (by intro e; have h : w2.heap.size = g := Option.some.inj e; omega)
            have D4 := bgrown (ba D _) (by simp; omega) G4 (by intro j hj; have h : g = j := Option.some.inj hj; omega)
            have CA := A4.cell
            have LA := A4.lt
            obtain ⟨f0, f1, f2, f3, f4, f5⟩ := fileC_get C j j1
            have hset := fileC_set C j ⟨x0, x1, x2, x3, x4, x5⟩ j1
            clear B BH A c0 c1 c2 c3 c4 c5 c6 c7 c8 ST K9 LL LL' G4
            go_upto_region 17 with (fail)
            have hne : w2.heap.size ≠ wr.heap.size := by omega
            have OF : ∀ w1, Calls Try.prog 8 #[.agg #[.bool x0, .int .u32 x1, .int .u32 x2, .int .u32 x3, .int .u16 x4, .int .u16 x5]] w1 fun e w' => e = .returned (.agg #[.bool x0, .int .u32 x1, .int .u32 x2, .int .u32 x3, .int .u16 x4, .int .u16 x5]) ∧ Below w1.heap.size w1 w' := fun w1 => of_c ⟨x0, x1, x2, x3, x4, x5⟩ w1
            have A4d : Blk w4.drew wr.heap.size #[.int .i64 1, .int .i64 (j : Int), .bool x0, .int .u32 x1, .int .u32 x2, .int .u32 x3, .int .u16 x4, .int .u16 x5, .slice a m cp] 34 := A4
            go_region_held3 (fun W => Blk W wr.heap.size #[.int .i64 1, .int .i64 (j : Int), .bool x0, .int .u32 x1, .int .u32 x2, .int .u32 x3, .int .u16 x4, .int .u16 x5, .slice a m cp] 34 ∧ ∀ o, W.cell? ⟨wr.heap.size, o, none⟩ = (#[.int .i64 1, .int .i64 (j : Int), .bool x0, .int .u32 x1, .int .u32 x2, .int .u32 x3, .int .u16 x4, .int .u16 x5, .slice a m cp] : Array Value)[o]?)
              (first
                | with_reducible exact ⟨A4d, A4d.cell⟩
                | with_reducible exact ⟨A5, A5.cell⟩
                | exact ⟨(Blk.other (Blk.other (Blk.other (Blk.other (Blk.other (Blk.other A5 _ _ hne) _ _ hne) _ _ hne) _ _ hne) _ _ hne) _ _ hne), (Blk.other (Blk.other (Blk.other (Blk.other (Blk.other (Blk.other A5 _ _ hne) _ _ hne) _ _ hne) _ _ hne) _ _ hne) _ _ hne).cell⟩)
              (first
                | (go_at_call 8; (with_reducible refine (OF _).mono ?_); rintro e w5 ⟨rfl, hb5⟩; have A5 := Blk.later (w := w4.drew) A4 hb5; have H5 := Blk.later (w := w4.drew) H4 hb5; have d0 := (H5.cell _).trans f0; have d1 := (H5.cell _).trans f1; have d2 := (H5.cell _).trans f2; have d3 := (H5.cell _).trans f3; have d4 := (H5.cell _).trans f4; have d5 := (H5.cell _).trans f5; have ds := H5.soft; have dl := H5.lt))
            have HH := ((((((H5.set (j * 6) (.bool x0)).set (j * 6 + 1) (.int .u32 x1)).set (j * 6 + 2) (.int .u32 x2)).set (j * 6 + 3) (.int .u32 x3)).set (j * 6 + 4) (.int .u16 x4)).set (j * 6 + 5) (.int .u16 x5))
            change Blk _ w2.heap.size (wrC (fileC C) j ⟨x0, x1, x2, x3, x4, x5⟩) 30 at HH
            rw [hset] at HH
            have B5 := Blk.later (w := w4.drew) B4 hb5
            have D5 : Below w.heap.size w w5 := bt (w1 := w4.drew) D4.drew hb5
            clear d0 d1 d2 d3 d4 d5 ds dl f0 f1 f2 f3 f4 f5 CA A5 A4 A4d hset H5 H4
            go_wp2_with fail
            refine ⟨⟨k + 1, g, upd C j ⟨x0, x1, x2, x3, x4, x5⟩, by simp, rfl, by omega, ?_, ?_, HH, ?_, hg, hgH⟩, by simp [intOf]; omega⟩
            · repeat (first | (with_reducible exact D5) | (with_reducible refine bs ?_ (by simp; omega) _))
            · exact Blk.other (Blk.other (Blk.other (Blk.other (Blk.other (Blk.other B5 _ _ hgH.symm) _ _ hgH.symm) _ _ hgH.symm) _ _ hgH.symm) _ _ hgH.symm) _ _ hgH.symm
            · rw [upd_other C _ (by omega)]
              exact hC0
          · have SN : ∀ w1, Calls Try.prog 7 #[.pointer (some ⟨g, 0, none⟩), .int .i64 ri, .agg #[.bool x0, .int .u32 x1, .int .u32 x2, .int .u32 x3, .int .u16 x4, .int .u16 x5]] w1 fun e w' => e = .returned (.tuple #[]) ∧ Below w1.heap.size w1 w' :=
              fun w1 => set_no g ri ⟨x0, x1, x2, x3, x4, x5⟩ w1 hr
            have A := Blk.new wr #[.int .i64 1, .int .i64 ri, .bool x0, .int .u32 x1, .int .u32 x2, .int .u32 x3, .int .u16 x4, .int .u16 x5, .slice a m cp] 34 _ rfl
            go_wp2_with fail
            ((with_reducible refine (SN _).mono ?_); rintro e w4 ⟨rfl, hb4⟩)
            have A4 := A.later hb4
            have CA := A4.cell
            have LA := A4.lt
            have D4 := bt (ba D _) hb4
            have B4 := (B.alloc (.cells #[.int .i64 1, .int .i64 ri, .bool x0, .int .u32 x1, .int .u32 x2, .int .u32 x3, .int .u16 x4, .int .u16 x5, .slice a m cp] 34)).later hb4
            have H4 := (BH.alloc (.cells #[.int .i64 1, .int .i64 ri, .bool x0, .int .u32 x1, .int .u32 x2, .int .u32 x3, .int .u16 x4, .int .u16 x5, .slice a m cp] 34)).later hb4
            clear B BH A A4 c0 c1 c2 c3 c4 c5 c6 c7 c8 SN K9 LL LL' hb4
            by_cases r0 : 0 < ri
            · have r1 : ¬ ri < 16 := fun h => hr ⟨r0, h⟩
              go_wp2_with fail
              exact ⟨⟨k + 1, g, C, by simp, rfl, by omega, D4, B4, H4, hC0, hg, hgH⟩, by simp [intOf]; omega⟩
            · go_wp2_with fail
              exact ⟨⟨k + 1, g, C, by simp, rfl, by omega, D4, B4, H4, hC0, hg, hgH⟩, by simp [intOf]; omega⟩
        · by_cases o2 : op = 2
          · subst o2
            have lB := B.lt
            have lH := BH.lt
            have dw := D.size
            obtain ⟨wo, rfl⟩ : ∃ wo : World, wo = wr := ⟨_, rfl⟩
            have A := Blk.new wo #[.int .i64 2, .int .i64 ri, .bool x0, .int .u32 x1, .int .u32 x2, .int .u32 x3, .int .u16 x4, .int .u16 x5, .slice a m cp] 34 _ rfl
            have XL : ∀ w1, Below w.heap.size w w1 → ∀ q, q < m → ∃ b' off', a = some ⟨b', off', none⟩ ∧ w1.cell? ⟨b', off' + q, none⟩ = some (.int .i64 (xs.getD q 0)) := fun w1 hb q hq => by
              rcases LL' with h0 | ⟨b', off', rfl, hlt, hcell⟩
              · omega
              · exact ⟨b', off', rfl, (hb.cell (p := ⟨b', off' + q, none⟩) hlt).trans (hcell q hq)⟩
            go_wp2_with fail
            (refine (K9 g C _ (B.alloc _) (ba D _) hg).mono ?_; rintro e w4 ⟨rfl, B4, G4⟩)
            have A4 := A.grown G4 (by intro e; have h : wo.heap.size = g := Option.some.inj e; omega)
            have H4 := (BH.alloc (.cells #[.int .i64 2, .int .i64 ri, .bool x0, .int .u32 x1, .int .u32 x2, .int .u32 x3, .int .u16 x4, .int .u16 x5, .slice a m cp] 34)).grown G4 (by intro e; have h : w2.heap.size = g := Option.some.inj e; omega)
            have D4 := bgrown (ba D (.cells #[.int .i64 2, .int .i64 ri, .bool x0, .int .u32 x1, .int .u32 x2, .int .u32 x3, .int .u16 x4, .int .u16 x5, .slice a m cp] 34)) (by simp; omega) G4 (by intro j hj; have h : g = j := Option.some.inj hj; omega)
            clear B BH A c0 c1 c2 c3 c4 c5 c6 c7 c8 K9 LL LL' G4
            go_wp2_with fail
            go_loopw [9] (fun jv wq => ∃ j : Nat, jv = .int .i64 (j : Int) ∧ j ≤ 16 ∧ Below w.heap.size w wq ∧ Blk wq g (fileC (keepC C xs 16)) 48 ∧ Blk wq w2.heap.size (fileC (keepC C xs j)) 30 ∧ Blk wq wo.heap.size #[.int .i64 2, .int .i64 ri, .bool x0, .int .u32 x1, .int .u32 x2, .int .u32 x3, .int .u16 x4, .int .u16 x5, .slice a m cp] 34) (fun jv _ => (16 - intOf jv).toNat)
            case atStart => exact ⟨0, rfl, by omega, D4, B4, by rw [keepC_zero]; exact H4, A4⟩
            case round =>
              obtain ⟨j, rfl, hj, D', B', H', A'⟩ := hrel
              clear D4 B4 H4 A4
              by_cases h16 : j = 16
              · subst h16
                go_wp2_with fail
                exact ⟨⟨k + 1, g, keepC C xs 16, by simp, rfl, by omega, D', B', H', by (unfold keepC; split <;> first | rfl | exact hC0), hg, hgH⟩, by simp [intOf]; omega⟩
              · have j1 : (j : Int) < 16 := by omega
                have j2 : (0 : Int) ≤ (j : Int) := by omega
                obtain ⟨wp, rfl⟩ : ∃ wp : World, wp = wr := ⟨_, rfl⟩
                have CA := A'.cell
                have LA := A'.lt
                go_wp2_with fail
                go_loopw [10, 11] (fun on mv wz => ∃ q : Nat, mv = .int .i64 (q : Int) ∧ q ≤ m ∧ on = .bool ((xs.take q).contains (j : Int)) ∧ wz = wp) (fun _ mv _ => ((m : Int) - intOf mv).toNat)
                case atStart => exact ⟨0, rfl, by omega, by simp, rfl⟩
                case round =>
                  obtain ⟨q, rfl, hq, rfl, rfl⟩ := hrel
                  by_cases hqm : q = m
                  · subst hqm
                    rw [show xs.take q = xs from List.take_of_length_le (by omega)]
                    rcases Bool.eq_false_or_eq_true (xs.contains (j : Int)) with hx | hx
                    · rw [hx]
                      go_wp2_with fail
                      exact ⟨⟨j + 1, by simp, by omega, D', B', by rw [keepC_yes C xs j hx]; exact H', A'⟩, by simp [intOf]; omega⟩
                    · rw [hx]
                      have RZ : ∀ W, Calls Try.prog 10 #[.int .u32 0] W fun e w' => e = .returned (.agg #[.bool false, .int .u32 0, .int .u32 0, .int .u32 0, .int .u16 0, .int .u16 0]) ∧ Below W.heap.size W w' := fun W => rint_c 0 W
                      obtain ⟨f0, f1, f2, f3, f4, f5⟩ := fileC_get (keepC C xs j) j (by omega)
                      have hset := fileC_set (keepC C xs j) j (Cp.int 0) (by omega)
                      have hne : w2.heap.size ≠ wo.heap.size := by omega
                      go_wp2_with (go_at_call 10; (with_reducible refine (RZ _).mono ?_); rintro e w6 ⟨rfl, hb6⟩; have H6 := H'.later hb6; have d0 := (H6.cell _).trans f0; have d1 := (H6.cell _).trans f1; have d2 := (H6.cell _).trans f2; have d3 := (H6.cell _).trans f3; have d4 := (H6.cell _).trans f4; have d5 := (H6.cell _).trans f5; have ds := H6.soft; have dl := H6.lt)
                      have HH := ((((((H6.set (j * 6) (.bool false)).set (j * 6 + 1) (.int .u32 0)).set (j * 6 + 2) (.int .u32 0)).set (j * 6 + 3) (.int .u32 0)).set (j * 6 + 4) (.int .u16 0)).set (j * 6 + 5) (.int .u16 0))
                      change Blk _ w2.heap.size (wrC (fileC (keepC C xs j)) j (Cp.int 0)) 30 at HH
                      rw [hset, ← keepC_no C xs j hx] at HH
                      have B6 := B'.later hb6
                      have A6 := A'.later hb6
                      have D6 := bt D' hb6
                      refine ⟨⟨j + 1, by simp, by omega, ?_, (Blk.other (Blk.other (Blk.other (Blk.other (Blk.other (Blk.other B6 _ _ hgH.symm) _ _ hgH.symm) _ _ hgH.symm) _ _ hgH.symm) _ _ hgH.symm) _ _ hgH.symm), HH, (Blk.other (Blk.other (Blk.other (Blk.other (Blk.other (Blk.other A6 _ _ hne) _ _ hne) _ _ hne) _ _ hne) _ _ hne) _ _ hne)⟩, by simp [intOf]; omega⟩
                      repeat (first | (with_reducible exact D6) | (with_reducible refine bs ?_ (by simp; omega) _))
                  · have q1 : (q : Int) < (m : Int) := by omega
                    have q2 : (0 : Int) ≤ (q : Int) := by omega
                    obtain ⟨b', off', rfl, hc⟩ := XL _ D' q (by omega)
                    have hstep := take_step xs q (by omega) (j : Int)
                    rcases Bool.eq_false_or_eq_true ((xs.take q).contains (j : Int)) with hr | hr
                    · rw [hr] at hstep ⊢
                      go_wp2_with fail
                      exact ⟨⟨q + 1, by simp, by omega, by rw [hstep]; rfl, trivial⟩, by simp [intOf]; omega⟩
                    · rw [hr] at hstep ⊢
                      generalize xs.getD q 0 = y at hc hstep
                      by_cases he : y = (j : Int)
                      · subst he
                        go_wp2_with fail
                        exact ⟨⟨q + 1, by simp, by omega, by rw [hstep]; simp, trivial⟩, by simp [intOf]; omega⟩
                      · go_wp2_with fail
                        exact ⟨⟨q + 1, by simp, by omega, by rw [hstep]; simp [he], trivial⟩, by simp [intOf]; omega⟩
          · by_cases o3 : op = 3
            · subst o3
              have lB := B.lt
              have lH := BH.lt
              have dw := D.size
              go_wp2_with fail
              (refine (twin_c g C _ (B.alloc _)).mono ?_; rintro e w4 ⟨g', rfl, hg', T4, hb4⟩)
              have gg : wr.heap.size + 1 ≤ g' := by simpa using hg'
              have D4 := bt (ba D _) hb4
              go_wp2_with fail
              (refine (keep_z g none 0 C _ ((B.alloc _).later hb4)).mono ?_; rintro e w5 ⟨rfl, B5, G5⟩)
              have T5 := T4.grown G5 (by intro e; have h : g' = g := Option.some.inj e; omega)
              have H5 := ((BH.alloc _).later hb4).grown G5 (by intro e; have h : w2.heap.size = g := Option.some.inj e; omega)
              have D5 := bgrown D4 (by have := D4.size; omega) G5 (by intro j hj; have h : g = j := Option.some.inj hj; omega)
              go_wp2_with fail
              ((with_reducible refine (int_v _ _).mono ?_); rintro e w6 ⟨rfl, hb6⟩)
              have D6 := bt D5 hb6
              go_wp2_with fail
              (refine (set_c g 5 _ (Cp.int 9) _ (B5.later hb6) (by omega) (by omega)).mono ?_; rintro e w7 ⟨rfl, B7, G7⟩)
              have T7 := (T5.later hb6).grown G7 (by intro e; have h : g' = g := Option.some.inj e; omega)
              have H7 := (H5.later hb6).grown G7 (by intro e; have h : w2.heap.size = g := Option.some.inj e; omega)
              have D7 := bgrown D6 (by have := D6.size; omega) G7 (by intro j hj; have h : g = j := Option.some.inj hj; omega)
              clear B B5 B7 T4 T5 H5 G5 G7 hb4 hb6 D4 D5 D6
              go_wp2_with fail
              exact ⟨⟨k + 1, g', C, by simp, rfl, by omega, D7, T7, H7, hC0, by omega, by omega⟩, by simp [intOf]; omega⟩
            · go_wp2_with fail
              exact ⟨⟨k + 1, g, C, by simp, rfl, by omega, ba D _, B.alloc _, BH.alloc _, hC0, hg, hgH⟩, by simp [intOf]; omega⟩
set_option maxRecDepth 20000 in
set_option maxHeartbeats 2000000 in
theorem walk0 (a0 : Option Addr) (cap : Nat) (idx : Int) (w : World) :
    Calls Try.prog 3 #[.slice a0 0 cap, .int .i64 idx] w fun e w' => e = .returned (.bool true) ∧ Below w.heap.size w w' := by
  have zv := zv30
  go_enter Try.func3, Try.ntmps3
  go_wp2_with fail
  ((with_reducible refine (known_c _).mono ?_); rintro e w1 ⟨rfl, hb1⟩)
  go_wp2_with fail
  ((with_reducible refine (new_c _).mono ?_); rintro e w2 ⟨g0, rfl, hg0, B2, hb2⟩)
  have d2 := bt hb1 hb2
  have L2 := B2.lt
  have hgw : w.heap.size ≤ g0 := Nat.le_trans hb1.size hg0
  have hHw : w.heap.size ≤ w2.heap.size := d2.size
  go_wp2_with fail
  go_loopw [5, 7] (fun fv i wr => ∃ (k g : Nat) (C : Nat → Cp), i = .int .i64 (k : Int) ∧ fv = .pointer (some ⟨g, 0, none⟩) ∧ k ≤ 0 ∧ Below w.heap.size w wr ∧ Blk wr g (fileC C) 48 ∧ Blk wr w2.heap.size (fileC C) 30 ∧ C 0 = Cp.int 0 ∧ w.heap.size ≤ g ∧ g ≠ w2.heap.size) (fun _ i _ => ((0 : Int) - intOf i).toNat)
  case atStart => exact ⟨0, g0, fun _ => Cp.int 0, rfl, rfl, by omega, ba d2 _, B2.alloc _, by rw [← zeroC_eq]; exact Blk.new _ _ _ _ rfl, rfl, hgw, by omega⟩
  case round =>
    obtain ⟨k, g, C, rfl, rfl, hk, D, B, BH, hC0, hg, hgH⟩ := hrel
    by_cases h : k = 0
    · subst h
      obtain ⟨wo, rfl⟩ : ∃ wo : World, wo = wr := ⟨_, rfl⟩
      have zv4 := zv40
      have hsz : (fileC C).toList.length = 96 := by rw [Array.length_toList]; exact fileC_size C
      have hsz2 : (fileC C).size = 96 := fileC_size C
      have IZ : ∀ W, Calls Try.prog 12 #[.int .u32 0] W fun e w' => e = .returned (.agg #[.bool false, .int .u32 0, .int .u32 0, .int .u32 0, .int .u16 0, .int .u16 0]) ∧ Below W.heap.size W w' := fun W => int_c 0 W
      go_wp2_with fail
      (refine (all_c g C _ B).mono ?_; rintro e w4 ⟨rfl, hb4⟩)
      obtain ⟨w5, hst, A5, bel5⟩ := store_new 40 C w4
      have B5 := (B.later hb4).later bel5
      have H5 := (BH.later hb4).later bel5
      have D5 := bt (bt D hb4) bel5
      clear B BH D hb4 bel5
      go_wp2_with fail
      go_loopw [14] (fun jv wq => ∃ j : Nat, jv = .int .i64 (j : Int) ∧ j ≤ 16 ∧ Below w.heap.size w wq ∧ Blk wq g (fileC C) 48 ∧ Blk wq w2.heap.size (fileC C) 30 ∧ Blk wq w4.heap.size (fileC C) 40) (fun jv _ => (16 - intOf jv).toNat)
      case atStart => exact ⟨0, rfl, by omega, D5, B5, H5, A5⟩
      case round =>
        obtain ⟨j, rfl, hj, D', B', H', A'⟩ := hrel
        clear D5 B5 H5 A5 hst
        by_cases h16 : j = 16
        · subst h16
          by_cases r0 : 0 ≤ idx
          · by_cases r1 : idx < 16
            · go_wp2_with fail
              go_ret
              exact ⟨rfl, D'⟩
            · have GN : ∀ w1, Calls Try.prog 14 #[.pointer (some ⟨g, 0, none⟩), .int .i64 idx] w1 fun e w' => e = .returned (.agg #[.bool false, .int .u32 0, .int .u32 0, .int .u32 0, .int .u16 0, .int .u16 0]) ∧ Below w1.heap.size w1 w' := fun w1 => get_no g idx w1 (by omega)
              go_wp2_with (first
                | (go_at_call 14; (with_reducible refine (GN _).mono ?_); rintro e w6 ⟨rfl, hb6⟩)
                | (go_at_call 12; (with_reducible refine (IZ _).mono ?_); rintro e w7 ⟨rfl, hb7⟩))
              go_ret
              exact ⟨rfl, bt (bt D' hb6) hb7⟩
          · have GN : ∀ w1, Calls Try.prog 14 #[.pointer (some ⟨g, 0, none⟩), .int .i64 idx] w1 fun e w' => e = .returned (.agg #[.bool false, .int .u32 0, .int .u32 0, .int .u32 0, .int .u16 0, .int .u16 0]) ∧ Below w1.heap.size w1 w' := fun w1 => get_no g idx w1 (by omega)
            go_wp2_with (first
              | (go_at_call 14; (with_reducible refine (GN _).mono ?_); rintro e w6 ⟨rfl, hb6⟩)
              | (go_at_call 12; (with_reducible refine (IZ _).mono ?_); rintro e w7 ⟨rfl, hb7⟩))
            go_ret
            exact ⟨rfl, bt (bt D' hb6) hb7⟩
        · have j1 : (j : Int) < 16 := by omega
          have j2 : (0 : Int) ≤ (j : Int) := by omega
          have j3 : j < 16 := by omega
          go_upto_region 41 with (fail)
          try simp only [List.append_eq, List.cons_append, List.nil_append]
          refine reg_draw (by kernel_rfl) (by kernel_rfl) (fun W => Below w.heap.size w W ∧ Blk W g (fileC C) 48 ∧ Blk W w2.heap.size (fileC C) 30 ∧ Blk W w4.heap.size (fileC C) 40) ⟨D', B', H', A'⟩ ?_
          rintro W ⟨DW, YG, YH, YA⟩
          have GV : ∀ u : Later W, Calls Try.prog 14 #[.pointer (some ⟨g, 0, none⟩), .int .i64 (j : Int)] u.w fun e w' => e = .returned (C j).val ∧ Below u.w.heap.size u.w w' := fun u => by
            by_cases h0 : j = 0
            · subst h0
              rw [hC0]
              exact get_no g ((0 : Nat) : Int) u.w (by omega)
            · exact get_c g j C u.w (YG.later u.below) (by omega) j3
          have NX : ∀ u : Later W, Blk u.w g (fileC C) 48 ∧ Blk u.w w2.heap.size (fileC C) 30 ∧ Blk u.w w4.heap.size (fileC C) 40 := fun u => ⟨YG.later u.below, YH.later u.below, YA.later u.below⟩
          obtain ⟨f0, f1, f2, f3, f4, f5⟩ := fileC_get C j j3
          have s0 := fun u : Later W => ((YH.later u.below).cell _).trans f0
          have s1 := fun u : Later W => ((YH.later u.below).cell _).trans f1
          have s2 := fun u : Later W => ((YH.later u.below).cell _).trans f2
          have s3 := fun u : Later W => ((YH.later u.below).cell _).trans f3
          have s4 := fun u : Later W => ((YH.later u.below).cell _).trans f4
          have s5 := fun u : Later W => ((YH.later u.below).cell _).trans f5
          have t0 := fun u : Later W => ((YA.later u.below).cell _).trans f0
          have t1 := fun u : Later W => ((YA.later u.below).cell _).trans f1
          have t2 := fun u : Later W => ((YA.later u.below).cell _).trans f2
          have t3 := fun u : Later W => ((YA.later u.below).cell _).trans f3
          have t4 := fun u : Later W => ((YA.later u.below).cell _).trans f4
          have t5 := fun u : Later W => ((YA.later u.below).cell _).trans f5
          have NXh : Hid (∀ u : Later W, Blk u.w g (fileC C) 48 ∧ Blk u.w w2.heap.size (fileC C) 30 ∧ Blk u.w w4.heap.size (fileC C) 40) := NX
          clear NX f0 f1 f2 f3 f4 f5 YG YH YA D' B' H' A'
          have OF : ∀ (x : Cp) w1, Calls Try.prog 8 #[.agg #[.bool x.tg, .int .u32 x.b, .int .u32 x.t, .int .u32 x.a, .int .u16 x.p, .int .u16 x.y]] w1 fun e w' => e = .returned (.agg #[.bool x.tg, .int .u32 x.b, .int .u32 x.t, .int .u32 x.a, .int .u16 x.p, .int .u16 x.y]) ∧ Below w1.heap.size w1 w' := of_c
          have OFj := OF (C j)
          generalize C j = x at *
          obtain ⟨x0, x1, x2, x3, x4, x5⟩ := x
          unfold Cp.val at GV
          dsimp only at *
          repeat (go_big_quiet_step (first | (go_at_call 8; with_reducible exact Later.call (OFj _)) | (go_at_call 14; with_reducible exact Later.call (GV _))))
          refine wpQuiet_nil ?_
          rintro _ ⟨u, rfl⟩
          have NU := NXh.out u
          go_wp2_with fail
          exact ⟨⟨j + 1, by simp, by omega, bt DW u.below, NU.1, NU.2.1, NU.2.2⟩, by simp [intOf]; omega⟩
    · exact absurd (Nat.le_zero.1 hk) h

set_option maxHeartbeats 1000000 in
theorem walk_big (a0 : Option Addr) (n cap : Nat) (idx : Int) (w : World) (hn : 60 < n) :
    Calls Try.prog 3 #[.slice a0 n cap, .int .i64 idx] w fun e w' => e = .returned (.bool true) ∧ Below w.heap.size w w' := by
  have q0 : (60 : Int) < (n : Int) := by omega
  go_enter Try.func3, Try.ntmps3
  go_wp2_with fail
  ((with_reducible refine (known_c _).mono ?_); rintro e w1 ⟨rfl, hb1⟩)
  go_wp2
  go_ret
  exact ⟨rfl, hb1⟩

theorem open_acts {H : Type} {enc : TypeId × Value → H} {w : World} {base : Nat} {held : Bool} {v : Value} {d : DataW H} {q : List MemPlace}
    (h : DataW.Trod enc Try.prog w base (fun _ => true) held 22 v d q) (hv : ∃ a len cap, v = .slice a len cap) :
    ∃ a len cap, v = .slice a len cap ∧ (len = 0 ∨ ∃ b off ac, a = some ⟨b, off, none⟩ ∧ len ≤ cap ∧ Acts w b off ac len) := by
  obtain ⟨a, len, cap, rfl⟩ := hv
  refine ⟨a, len, cap, rfl, ?_⟩
  obtain ⟨fuel, hf⟩ := h
  rcases Go.Deep.open_slice Try.underlying22 hf with ⟨hcs, _⟩ | ⟨x, l, c, m, n, D, Pl, hcs, _, hl, hm, hmm, _, hx⟩
  · simp [Value.cells] at hcs
    exact .inl hcs.2.1
  · simp [Value.cells] at hcs
    obtain ⟨rfl, rfl, rfl⟩ := hcs
    by_cases h0 : len = 0
    · exact .inl h0
    · right
      have hmc : m = cap := by simpa using hmm
      have key : ∀ i, i < len → ∃ c : Ac, (∀ j, j < 9 → w.cell? ((x.add (i * 9)).add j) = ([.int .i64 c.op, .int .i64 c.i, .bool c.c.tg, .int .u32 c.c.b, .int .u32 c.c.t, .int .u32 c.c.a, .int .u16 c.c.p, .int .u16 c.c.y, c.sv] : List Value)[j]?) ∧ Lst w w.heap.size c.sv c.xs ∧ -9223372036854775808 ≤ c.i ∧ c.i ≤ 9223372036854775807 := fun i hi => by
        obtain ⟨cs', h1, h2⟩ := hx i (by omega)
        rw [cells34] at h1
        obtain ⟨_, hlen, hc⟩ := World.cells?_some h1
        obtain ⟨c, rfl, hL⟩ := open_act hlen h2
        exact ⟨c, hc, hL⟩
      obtain ⟨ac, hac⟩ := Go.Deep.choose_lt (α := Ac) key
      obtain ⟨b, off, spot⟩ := x
      have hc := (hac 0 (by omega)).1 0 (by omega)
      have hspot : spot = none := by
        have hc' : w.cell? ((Addr.mk b off spot).add (0 * 9) |>.add 0) = some (.int .i64 (ac 0).op) := hc
        have := World.cell?_spot hc'
        cases spot with
        | none => rfl
        | some s => simp [Addr.add] at this
      subst hspot
      refine ⟨b, off, ac, rfl, hl, fun j hj => ⟨?_, (hac j hj).2⟩⟩
      have hadd : ∀ k, ((⟨b, off, none⟩ : Addr).add (j * 9)).add k = ⟨b, off + j * 9 + k, none⟩ := fun k => by rw [Addr.add_mid, Addr.add_mid]
      have hh := fun k hk => (hadd k) ▸ (hac j hj).1 k hk
      exact ⟨hh 0 (by omega), hh 1 (by omega), hh 2 (by omega), hh 3 (by omega), hh 4 (by omega), hh 5 (by omega), hh 6 (by omega), hh 7 (by omega), hh 8 (by omega)⟩

/-! ### The row -/
set_option maxRecDepth 100000 in
theorem lifted (os : Os) (started : os.Started) (H : Type) (enc : TypeId × Value → H) :
    ReturnsInHanded {} Try.checked os 3 .any (Rows.regsPlaysSpec.pre6 enc Try.prog Try.f3 Rows.regsPlaysRow.domain false) (Rows.regsPlaysSpec.post enc Try.prog Try.f3 false true false false) := by
  refine returnsInHanded_of_change (C := Try.checked) own started (by kernel_rfl) Try.func3
    (ChangeSpec.witness6 (enc := enc) (C := Try.checked) false ⟨#[], #[.slice none 0 0, .int .i64 0], []⟩ 8 (by kernel_rfl) (by kernel_rfl) (by kernel_rfl) (by kernel_rfl)) ?_
  intro W base args ds gs before hval0 hW hcnd _
  have hval : ∀ (j : Nat) t v, Try.f3.params[j]? = some t → args[j]? = some v → Value.okWide Try.prog W .any base t v := hval0
  have hW' := hW
  obtain ⟨p, q, hA0, hV, rfl, hfz, hnd⟩ := hW
  have hA : DataW.TrodAll enc Try.prog W 0 (fun _ => true) true Try.f3.params.toList args.toList ds p := hA0
  rw [Try.params3] at hA hval
  obtain ⟨v0, vs0, d0, ds0, p0, q0, hargs, rfl, rfl, h0, r0⟩ := trodAll_cons hA
  obtain ⟨v1, vs1, d1, ds1, p1, q1, rfl, rfl, rfl, h1, r1⟩ := trodAll_cons r0
  obtain ⟨rfl, rfl, rfl⟩ := trodAll_nil r1
  obtain rfl : args = #[v0, v1] := by cases args; simp_all
  obtain ⟨rfl, rfl⟩ := trodVars_none hV
  have k0 := h0
  have l0 : ∀ x ∈ p0, x.block < W.heap.size := by obtain ⟨m, hm⟩ := k0; exact DataW.trod_lt m _ _ _ hm
  obtain ⟨a0, len, cap, rfl, hcaps⟩ := open_acts h0 (okWide_slice Try.underlying22 (hval 0 22 v0 rfl rfl))
  obtain ⟨v, rfl, rfl, rfl, w1⟩ := open_int Try.underlying3 (hval 1 3 v1 rfl rfl) h1
  have main : Calls Try.prog 3 #[.slice a0 len cap, .int .i64 v] W fun e w' => e = .returned (.bool true) ∧ Below W.heap.size W w' := by
    rcases hcaps with rfl | ⟨b, off, cp, rfl, hl, hc⟩
    · exact walk0 a0 cap v W
    · by_cases hb : 60 < len
      · exact walk_big _ len cap v W hb
      · exact walk b off len cap cp v W hc (by omega) hl
  clear hA0 hval0
  refine main.mono fun e W' ⟨he, bel⟩ => ?_
  subst he
  exact ⟨_, rfl, _, _, _, [], _, [], hW', trodAll_mk1 (shut_bool Try.underlying4 _), (trodAll_cons_mk (Below.trod laidOut (by kernel_rfl) (of_decide_eq_true (by kernel_rfl)) k0 bel l0) (trodAll_cons_mk (shut_int Try.underlying3 w1) trodAll_mk0)), rfl, bel.frame _, fun h => by cases h⟩

theorem said : Rows.RegsPlaysSaid :=
  OpenClaim.holds_of_wide 3 Try.f3 rfl rfl rfl rfl rfl rfl rfl ⟨rfl, rfl, rfl, rfl, rfl⟩ rfl rfl rfl rfl rfl (by kernel_rfl) Try.func3 (by kernel_rfl)
    (of_decide_eq_true (by kernel_rfl)) (by unfold Func.isWrapper; first | (rw [if_pos (by decide +kernel)]; kernel_rfl) | (rw [if_neg (by decide +kernel)]; exact ⟨rfl, rfl⟩))
    (fun os started H enc _ => lifted os started H enc)
end Go.Proofs.Ytfjknnhhgnnpaaa.lawRegsPlays
