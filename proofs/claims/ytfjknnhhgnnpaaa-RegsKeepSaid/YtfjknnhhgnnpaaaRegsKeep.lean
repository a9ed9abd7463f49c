/- What a file keeps: the law answers true and leaves its arguments alone. No condition beyond the row's own. -/
import Derived.Test.YtfjknnhhgnnpaaaF
namespace Go.Proofs.Ytfjknnhhgnnpaaa.lawRegsKeep
open Go.ChangeShapes Go.WideShapes Go.ChangeAt Go.RowKit
set_option linter.unusedVariables false
set_option linter.unusedSimpArgs false

theorem info3 : (Try.prog.info? 3).map (fun i => (i.zero, i.size, i.bytes)) = some (some (.int .i64 0), 1, 8) := by kernel_rfl
theorem Caps.later {w w1 : World} {b off n : Nat} {cp : Nat → Cp} (h : Caps w b off cp n) (hb : Below w.heap.size w w1) : Caps w1 b off cp n := fun j hj => by
  obtain ⟨h0, h1, h2, h3, h4, h5⟩ := h j hj
  have lt := World.block_lt_of_cell? w _ h0
  have key : ∀ o, w1.cell? ⟨b, o, none⟩ = w.cell? ⟨b, o, none⟩ := fun o => hb.cell (p := ⟨b, o, none⟩) lt
  simp only [key]
  exact ⟨h0, h1, h2, h3, h4, h5⟩
def bitB (v : Int) (k : Nat) : Bool := bits .and .u16 (v / 2 ^ k) 1 == 1
def setC (cp : Nat → Cp) (n k : Nat) : Nat → Cp := fun m => if 0 < m ∧ m < k ∧ m < n then cp m else Cp.int 0
def ksL (v : Int) (k : Nat) : List Int := ((List.range k).filter (bitB v)).map Int.ofNat

theorem one_new (w : World) (x : Value) (t : TypeId) (n : Nat) (hn : w.heap.size = n) : ∀ j u, [x][j]? = some u → (w.alloc (.cells #[x] t)).cell? ((⟨n, 0, none⟩ : Addr).add j) = some u := by
  subst hn
  exact cell_one_new w x t
theorem oc (k : IntKind) (n : Int) : ∀ u ∈ [Value.int k n], u.oneCell' = true := by
  intro u hu
  rw [List.mem_singleton.1 hu]
  rfl
theorem le_max {n : Nat} (h : n ≤ 40) : n + 1 ≤ maxLen := by unfold maxLen; omega
theorem le_bytes {n : Nat} (h : n ≤ 40) : (n + 1) * 8 ≤ 140737488355328 := by omega
theorem le_alloc {B : Nat} {w : World} (h : B ≤ w.heap.size) (o : Obj) : B ≤ (w.alloc o).heap.size := by simp; omega
theorem setC_zero (cp : Nat → Cp) (n : Nat) : setC cp n 0 = fun _ => Cp.int 0 := by
  funext m
  exact if_neg (by omega)
theorem setC_past (cp : Nat → Cp) (n k : Nat) (h : ¬ k < n) : setC cp n (k + 1) = setC cp n k := by
  funext m
  unfold setC
  have : (0 < m ∧ m < k + 1 ∧ m < n) ↔ (0 < m ∧ m < k ∧ m < n) := by omega
  simp only [this]
theorem setC_one (cp : Nat → Cp) (n : Nat) : setC cp n (0 + 1) = setC cp n 0 := by
  funext m
  unfold setC
  rw [if_neg (by omega), if_neg (by omega)]
theorem setC_step (cp : Nat → Cp) (n k : Nat) (h0 : 0 < k) (h : k < n) : setC cp n (k + 1) = upd (setC cp n k) k (cp k) := by
  funext m
  unfold setC upd
  by_cases hm : m = k
  · subst hm
    rw [if_pos (by omega), if_pos rfl]
  · rw [if_neg hm]
    have : (0 < m ∧ m < k + 1 ∧ m < n) ↔ (0 < m ∧ m < k ∧ m < n) := by omega
    simp only [this]
theorem ksL_yes (v : Int) (k : Nat) (h : bitB v k = true) : ksL v (k + 1) = ksL v k ++ [(k : Int)] := by
  unfold ksL
  rw [List.range_succ, List.filter_append, List.map_append]
  simp [h]
theorem ksL_no (v : Int) (k : Nat) (h : bitB v k = false) : ksL v (k + 1) = ksL v k := by
  unfold ksL
  rw [List.range_succ, List.filter_append, List.map_append]
  simp [h]
theorem ksL_len (v : Int) (k : Nat) : (ksL v k).length ≤ k := by
  unfold ksL
  rw [List.length_map]
  exact Nat.le_trans (List.length_filter_le _ _) (by simp)
theorem ksL_has (v : Int) (n k : Nat) (h : k < n) : (ksL v n).contains (k : Int) = bitB v k := by
  rw [Bool.eq_iff_iff, List.contains_iff_mem]
  unfold ksL
  rw [List.mem_map]
  constructor
  · rintro ⟨j, hj, he⟩
    have : j = k := Int.ofNat.inj he
    rw [← this]
    exact (List.mem_filter.1 hj).2
  · intro hb
    exact ⟨k, List.mem_filter.2 ⟨List.mem_range.2 h, hb⟩, rfl⟩
theorem set_any (g k n : Nat) (cp : Nat → Cp) (x : Cp) (w : World) (hx : cp k = x) (hB : Blk w g (fileC (setC cp n k)) 48) (hk : k < n) (hn : k < 16) :
    Calls Try.prog 7 #[.pointer (some ⟨g, 0, none⟩), .int .i64 (k : Int), .agg #[.bool x.tg, .int .u32 x.b, .int .u32 x.t, .int .u32 x.a, .int .u16 x.p, .int .u16 x.y]] w fun e w' => e = .returned (.tuple #[]) ∧ Blk w' g (fileC (setC cp n (k + 1))) 48 ∧ w.grownBy w' (some g) := by
  subst hx
  by_cases h0 : k = 0
  · subst h0
    refine (set_no g ((0 : Nat) : Int) (cp 0) w (by omega)).mono fun e w' ⟨he, hb⟩ => ⟨he, ?_, gb_below (gb_refl w g) hb⟩
    rw [setC_one]
    exact hB.later hb
  · rw [setC_step cp n k (by omega) hk]
    exact set_c g k (setC cp n k) (cp k) w hB (by omega) hn

theorem Ints.of_own {w : World} {base : Nat} {v : Value} {xs : List Int} (h : w.ownsRow base 3 1 v xs.length (xs.map (Value.int .i64))) (hn : xs.length ≤ 1000) : Ints w v xs := by
  rcases h.2 with ⟨rfl, h0⟩ | ⟨g, cap, cur, rfl, rest⟩
  · exact .inl ⟨rfl, List.eq_nil_of_length_eq_zero h0⟩
  · refine .inr ⟨g, 0, xs.length, cap, rfl, rfl, hn, fun j hj => ?_⟩
    rw [Nat.zero_add, h.cellAt j (by omega), List.getElem?_map, List.getElem?_eq_getElem hj, List.getD_eq_getElem?_getD, List.getElem?_eq_getElem hj]
    rfl
theorem capsFacts {w w1 : World} {b off n : Nat} {cp : Nat → Cp} (h : Caps w b off cp n) (hb : Below w.heap.size w w1) (j : Nat) (hj : j < n) :
  w1.cell? ⟨b, off + j * 6, none⟩ = some (.bool (cp j).tg) ∧ w1.cell? ⟨b, off + j * 6 + 1, none⟩ = some (.int .u32 (cp j).b) ∧ w1.cell? ⟨b, off + j * 6 + 2, none⟩ = some (.int .u32 (cp j).t) ∧
  w1.cell? ⟨b, off + j * 6 + 3, none⟩ = some (.int .u32 (cp j).a) ∧ w1.cell? ⟨b, off + j * 6 + 4, none⟩ = some (.int .u16 (cp j).p) ∧ w1.cell? ⟨b, off + j * 6 + 5, none⟩ = some (.int .u16 (cp j).y) ∧ b < w1.heap.size := by
  obtain ⟨h0, h1, h2, h3, h4, h5⟩ := Caps.later h hb j hj
  exact ⟨h0, h1, h2, h3, h4, h5, World.block_lt_of_cell? w1 _ h0⟩

set_option maxHeartbeats 1000000 in
theorem walk (b off n cap : Nat) (cp : Nat → Cp) (v : Int) (w : World) (hcap : Caps w b off cp n) (hn : n ≤ 16) (hnc : n ≤ cap) (hv0 : 0 ≤ v) (hv1 : v ≤ 65535) :
    Calls Try.prog 4 #[.slice (some ⟨b, off, none⟩) n cap, .int .u16 v] w fun e w' => e = .returned (.bool true) ∧ Below w.heap.size w w' := by
  obtain ⟨i0, hi, hz0, hz1, hz2⟩ := info_parts info3
  have IZ : ∀ W, Calls Try.prog 12 #[.int .u32 0] W fun e w' => e = .returned (.agg #[.bool false, .int .u32 0, .int .u32 0, .int .u32 0, .int .u16 0, .int .u16 0]) ∧ Below W.heap.size W w' := fun W => int_c 0 W
  have q0 : (n : Int) ≤ 16 := by omega
  have q1 : ¬ (16 : Int) < (n : Int) := by omega
  go_enter Try.func4, Try.ntmps4
  go_wp2_with fail
  ((with_reducible refine (known_c _).mono ?_); rintro e w1 ⟨rfl, hb1⟩)
  go_wp2_with fail
  ((with_reducible refine (new_c _).mono ?_); rintro e w2 ⟨g, rfl, hg2, B2, hb2⟩)
  have d2 := bt hb1 hb2
  have L2 := B2.lt
  have hgw : w.heap.size ≤ g := Nat.le_trans hb1.size hg2
  go_wp2_with fail
  go_loopw [6, 7] (fun sv i wr => ∃ k : Nat, i = .int .i64 (k : Int) ∧ k ≤ 16 ∧ Below w.heap.size w wr ∧ w2.heap.size ≤ wr.heap.size ∧ Blk wr g (fileC (setC cp n k)) 48 ∧ wr.ownsRow w2.heap.size 3 1 sv (ksL v k).length ((ksL v k).map (Value.int .i64))) (fun _ i _ => (16 - intOf i).toNat)
  case atStart => exact ⟨0, rfl, by omega, d2, Nat.le_refl _, by rw [setC_zero]; exact B2, World.ownsRow_nil _ _ _ _⟩
  case round =>
    obtain ⟨k, rfl, hk, D, Z, B, O⟩ := hrel
    by_cases h : k = 16
    · subst h
      obtain ⟨wo, rfl⟩ : ∃ wo : World, wo = wr := ⟨_, rfl⟩
      have IT := Ints.of_own O (Nat.le_trans (ksL_len v 16) (by omega))
      have hne := O.lt
      go_wp2_with fail
      (refine (keep_c g _ (ksL v 16) (setC cp n 16) _ B IT (by intro e; have := (hne g e).1; omega)).mono ?_; rintro e w3 ⟨rfl, B3, G3⟩)
      have D3 := bgrown D (by have := D.size; omega) G3 (by intro j hj; have := Option.some.inj hj; omega)
      obtain ⟨C, hC⟩ : ∃ C, C = keepC (setC cp n 16) (ksL v 16) 16 := ⟨_, rfl⟩
      rw [← hC] at B3
      have HC : ∀ j, j < 16 → C j = if bitB v j = false then Cp.int 0 else setC cp n 16 j := fun j hj => by
        rw [hC]
        unfold keepC
        rw [ksL_has v 16 j hj]
        by_cases hbj : bitB v j = false
        · rw [if_pos ⟨hj, hbj⟩, if_pos hbj]
        · rw [if_neg (fun h => hbj h.2), if_neg hbj]
      clear hC B IT hne O D Z G3
      go_wp2_with fail
      go_loopw [8] (fun i wq => ∃ k : Nat, i = .int .i64 (k : Int) ∧ k ≤ 16 ∧ Below w.heap.size w wq ∧ Blk wq g (fileC C) 48) (fun i _ => (16 - intOf i).toNat)
      case atStart => exact ⟨0, rfl, by omega, D3, B3⟩
      case round =>
        obtain ⟨k, rfl, hk, D', B'⟩ := hrel
        clear B3 D3
        by_cases h : k = 16
        · subst h
          go_wp2
          go_ret
          exact ⟨rfl, D'⟩
        · have h1 : (k : Int) < 16 := by omega
          by_cases h5' : k = 0
          · subst h5'
            go_upto_region 23 with (first
              | (go_at_call 12; (with_reducible refine (IZ _).mono ?_); rintro e w4 ⟨rfl, hb4⟩; have cw := CW w4 hb4; obtain ⟨c0, c1, c2, c3, c4, c5, lb⟩ := cw)
              | (go_at_call 12; (with_reducible refine (IZ _).mono ?_); rintro e w4 ⟨rfl, hb4⟩))
            try simp only [List.append_eq, List.cons_append, List.nil_append]
            refine reg_draw (by kernel_rfl) (by kernel_rfl) (fun W => Below w.heap.size w W ∧ Blk W g (fileC C) 48 ∧ Blk W w4.heap.size #[.bool false, .int .u32 0, .int .u32 0, .int .u32 0, .int .u16 0, .int .u16 0] 31) ⟨ba (bt D' hb4) _, (B'.later hb4).alloc _, Blk.new _ _ _ _ rfl⟩ ?_
            rintro W ⟨DW, BW, NW⟩
            have CN := NW.at_
            have GW : ∀ u : Later W, Calls Try.prog 14 #[.pointer (some ⟨g, 0, none⟩), .int .i64 0] u.w fun e w' => e = .returned (.agg #[.bool false, .int .u32 0, .int .u32 0, .int .u32 0, .int .u16 0, .int .u16 0]) ∧ Below u.w.heap.size u.w w' := fun u => get_no g 0 u.w (by omega)
            clear NW
            repeat (go_big_quiet_step (first | (go_at_call 14; with_reducible exact Later.call (GW _))))
            refine wpQuiet_nil ?_
            rintro _ ⟨u, rfl⟩
            go_wp2
            exact ⟨⟨0 + 1, by simp, by omega, bt DW u.below, (by assumption : Blk W g (fileC C) 48).later u.below⟩, by simp [intOf]⟩
          · have h5 : 0 < k := by omega
            have h2 : (0 : Int) < (k : Int) := by omega
            have h6 : (0 : Int) ≤ (k : Int) := by omega
            have hCk := HC k (by omega)
            by_cases hkn : k < n
            · have h3 : (k : Int) < (n : Int) := by omega
              rcases Bool.eq_false_or_eq_true (bitB v k) with hb | hb
              · have hb' : bits .and .u16 (v / 2 ^ k) 1 = 1 := by simpa [bitB] using hb
                rw [if_neg (by rw [hb]; decide)] at hCk
                unfold setC at hCk
                rw [if_pos ⟨h5, by omega, hkn⟩] at hCk
                have CW := fun (w4 : World) (hb4 : Below wr.heap.size wr w4) => capsFacts hcap (bt D' hb4) k hkn
                generalize cp k = x at hCk CW
                go_upto_region 23 with (first
                  | (go_at_call 12; (with_reducible refine (IZ _).mono ?_); rintro e w4 ⟨rfl, hb4⟩; have cw := CW w4 hb4; obtain ⟨c0, c1, c2, c3, c4, c5, lb⟩ := cw)
                  | (go_at_call 12; (with_reducible refine (IZ _).mono ?_); rintro e w4 ⟨rfl, hb4⟩))
                try simp only [List.append_eq, List.cons_append, List.nil_append]
                refine reg_draw (by kernel_rfl) (by kernel_rfl) (fun W => Below w.heap.size w W ∧ Blk W g (fileC C) 48 ∧ Blk W w4.heap.size #[.bool x.tg, .int .u32 x.b, .int .u32 x.t, .int .u32 x.a, .int .u16 x.p, .int .u16 x.y] 31) ⟨ba (bt D' hb4) _, (B'.later hb4).alloc _, Blk.new _ _ _ _ rfl⟩ ?_
                rintro W ⟨DW, BW, NW⟩
                have CN := NW.at_
                have GW : ∀ u : Later W, Calls Try.prog 14 #[.pointer (some ⟨g, 0, none⟩), .int .i64 (k : Int)] u.w fun e w' => e = .returned (.agg #[.bool x.tg, .int .u32 x.b, .int .u32 x.t, .int .u32 x.a, .int .u16 x.p, .int .u16 x.y]) ∧ Below u.w.heap.size u.w w' := fun u => by have h := get_c g k C u.w (BW.later u.below) h5 (by omega); rw [hCk] at h; exact h
                clear NW
                repeat (go_big_quiet_step (first | (go_at_call 14; with_reducible exact Later.call (GW _))))
                refine wpQuiet_nil ?_
                rintro _ ⟨u, rfl⟩
                go_wp2
                exact ⟨⟨k + 1, by simp, by omega, bt DW u.below, (by assumption : Blk W g (fileC C) 48).later u.below⟩, by simp [intOf]; omega⟩
              · have hb' : ¬ bits .and .u16 (v / 2 ^ k) 1 = 1 := by simpa [bitB] using hb
                rw [if_pos hb] at hCk
                go_upto_region 23 with (first
                  | (go_at_call 12; (with_reducible refine (IZ _).mono ?_); rintro e w4 ⟨rfl, hb4⟩; have cw := CW w4 hb4; obtain ⟨c0, c1, c2, c3, c4, c5, lb⟩ := cw)
                  | (go_at_call 12; (with_reducible refine (IZ _).mono ?_); rintro e w4 ⟨rfl, hb4⟩))
                try simp only [List.append_eq, List.cons_append, List.nil_append]
                refine reg_draw (by kernel_rfl) (by kernel_rfl) (fun W => Below w.heap.size w W ∧ Blk W g (fileC C) 48 ∧ Blk W w4.heap.size #[.bool false, .int .u32 0, .int .u32 0, .int .u32 0, .int .u16 0, .int .u16 0] 31) ⟨ba (bt D' hb4) _, (B'.later hb4).alloc _, Blk.new _ _ _ _ rfl⟩ ?_
                rintro W ⟨DW, BW, NW⟩
                have CN := NW.at_
                have GW : ∀ u : Later W, Calls Try.prog 14 #[.pointer (some ⟨g, 0, none⟩), .int .i64 (k : Int)] u.w fun e w' => e = .returned (.agg #[.bool false, .int .u32 0, .int .u32 0, .int .u32 0, .int .u16 0, .int .u16 0]) ∧ Below u.w.heap.size u.w w' := fun u => by have h := get_c g k C u.w (BW.later u.below) h5 (by omega); rw [hCk] at h; exact h
                clear NW
                repeat (go_big_quiet_step (first | (go_at_call 14; with_reducible exact Later.call (GW _))))
                refine wpQuiet_nil ?_
                rintro _ ⟨u, rfl⟩
                go_wp2
                exact ⟨⟨k + 1, by simp, by omega, bt DW u.below, (by assumption : Blk W g (fileC C) 48).later u.below⟩, by simp [intOf]; omega⟩
            · have h3 : ¬ (k : Int) < (n : Int) := by omega
              have hCk : C k = Cp.int 0 := by
                rw [hCk]
                unfold setC
                split
                · rfl
                · rw [if_neg (by omega)]
              go_upto_region 23 with (first
                | (go_at_call 12; (with_reducible refine (IZ _).mono ?_); rintro e w4 ⟨rfl, hb4⟩; have cw := CW w4 hb4; obtain ⟨c0, c1, c2, c3, c4, c5, lb⟩ := cw)
                | (go_at_call 12; (with_reducible refine (IZ _).mono ?_); rintro e w4 ⟨rfl, hb4⟩))
              try simp only [List.append_eq, List.cons_append, List.nil_append]
              refine reg_draw (by kernel_rfl) (by kernel_rfl) (fun W => Below w.heap.size w W ∧ Blk W g (fileC C) 48 ∧ Blk W w4.heap.size #[.bool false, .int .u32 0, .int .u32 0, .int .u32 0, .int .u16 0, .int .u16 0] 31) ⟨ba (bt D' hb4) _, (B'.later hb4).alloc _, Blk.new _ _ _ _ rfl⟩ ?_
              rintro W ⟨DW, BW, NW⟩
              have CN := NW.at_
              have GW : ∀ u : Later W, Calls Try.prog 14 #[.pointer (some ⟨g, 0, none⟩), .int .i64 (k : Int)] u.w fun e w' => e = .returned (.agg #[.bool false, .int .u32 0, .int .u32 0, .int .u32 0, .int .u16 0, .int .u16 0]) ∧ Below u.w.heap.size u.w w' := fun u => by have h := get_c g k C u.w (BW.later u.below) h5 (by omega); rw [hCk] at h; exact h
              clear NW
              repeat (go_big_quiet_step (first | (go_at_call 14; with_reducible exact Later.call (GW _))))
              refine wpQuiet_nil ?_
              rintro _ ⟨u, rfl⟩
              go_wp2
              exact ⟨⟨k + 1, by simp, by omega, bt DW u.below, (by assumption : Blk W g (fileC C) 48).later u.below⟩, by simp [intOf]; omega⟩
    · have h1 : (k : Int) < 16 := by omega
      have h2 : (0 : Int) ≤ (k : Int) := by omega
      have hlen : (ksL v k).length ≤ 40 := Nat.le_trans (ksL_len v k) (by omega)
      have gb := O.lt
      by_cases hkn : k < n
      · have h3 : (k : Int) < (n : Int) := by omega
        obtain ⟨c0, c1, c2, c3, c4, c5⟩ := Caps.later hcap D k hkn
        have ST := set_any g k n cp (cp k) wr rfl B hkn (by omega)
        rcases Bool.eq_false_or_eq_true (bitB v k) with hb | hb
        · have hb' : bits .and .u16 (v / 2 ^ k) 1 = 1 := by simpa [bitB] using hb
          generalize cp k = x at c0 c1 c2 c3 c4 c5 ST
          go_wp2_with (first
            | (go_at_call 7; (with_reducible refine ST.mono ?_); rintro e w3 ⟨rfl, B3, G3⟩; have O3 := O.kept G3 (.inr (by intro e; have := (gb g e).1; omega)); have Z3 : w2.heap.size ≤ w3.heap.size := Nat.le_trans Z G3.size; have D3 := bgrown D (by have := D.size; omega) G3 (by intro j hj; have := Option.some.inj hj; omega))
            | (at_builtin; refine wpList_append_own_at _ rfl _ _ 32 rfl w2.heap.size 3 i0 (.int .i64 0) 1 8 Try.underlying32 hi hz0 hz1 hz2 rfl (by decide) _ _ _ rfl (O3.alloc _) ⟨_, 0, none⟩ 1 1 _ rfl rfl (one_new _ _ _ _ rfl) (oc _ _) (le_max hlen) (le_bytes hlen) (le_alloc Z3 _) ?_; intro v1 w4 own4 grow4 nil4 far4))
          have O4 : w4.ownsRow w2.heap.size 3 1 v1 (ksL v (k + 1)).length ((ksL v (k + 1)).map (Value.int .i64)) := by
            rw [ksL_yes v k hb]
            simpa using own4
          have gsv := O.lt
          have Bk4 := (B3.alloc (.cells #[.int .i64 (k : Int)] 3)).grown grow4 (by intro e; have := (gsv g e.symm).1; omega)
          have D4 := bgrown (ba D3 (.cells #[.int .i64 (k : Int)] 3)) (by simp; have := D3.size; omega) grow4 (by intro j hj; have := (gsv j hj).1; have := d2.size; omega)
          have Z4 : w2.heap.size ≤ w4.heap.size := by have := grow4.size; simp at this; omega
          exact ⟨⟨k + 1, by simp, by omega, D4, Z4, Bk4, O4⟩, by simp [intOf]; omega⟩
        · have hb' : ¬ bits .and .u16 (v / 2 ^ k) 1 = 1 := by simpa [bitB] using hb
          generalize cp k = x at c0 c1 c2 c3 c4 c5 ST
          go_wp2_with (first
            | (go_at_call 7; (with_reducible refine ST.mono ?_); rintro e w3 ⟨rfl, B3, G3⟩; have O3 := O.kept G3 (.inr (by intro e; have := (gb g e).1; omega)); have Z3 : w2.heap.size ≤ w3.heap.size := Nat.le_trans Z G3.size; have D3 := bgrown D (by have := D.size; omega) G3 (by intro j hj; have := Option.some.inj hj; omega)))
          have O4 := O3
          rw [← ksL_no v k hb] at O4
          exact ⟨⟨k + 1, by simp, by omega, D3, Z3, B3, O4⟩, by simp [intOf]; omega⟩
      · have h3 : ¬ (k : Int) < (n : Int) := by omega
        have B3 : Blk wr g (fileC (setC cp n (k + 1))) 48 := by rw [setC_past cp n k hkn]; exact B
        have O3 := O
        have Z3 := Z
        have D3 := D
        rcases Bool.eq_false_or_eq_true (bitB v k) with hb | hb
        · have hb' : bits .and .u16 (v / 2 ^ k) 1 = 1 := by simpa [bitB] using hb
          go_wp2_with (first
            | (at_builtin; refine wpList_append_own_at _ rfl _ _ 32 rfl w2.heap.size 3 i0 (.int .i64 0) 1 8 Try.underlying32 hi hz0 hz1 hz2 rfl (by decide) _ _ _ rfl (O3.alloc _) ⟨_, 0, none⟩ 1 1 _ rfl rfl (one_new _ _ _ _ rfl) (oc _ _) (le_max hlen) (le_bytes hlen) (le_alloc Z3 _) ?_; intro v1 w4 own4 grow4 nil4 far4))
          have O4 : w4.ownsRow w2.heap.size 3 1 v1 (ksL v (k + 1)).length ((ksL v (k + 1)).map (Value.int .i64)) := by
            rw [ksL_yes v k hb]
            simpa using own4
          have gsv := O.lt
          have Bk4 := (B3.alloc (.cells #[.int .i64 (k : Int)] 3)).grown grow4 (by intro e; have := (gsv g e.symm).1; omega)
          have D4 := bgrown (ba D3 (.cells #[.int .i64 (k : Int)] 3)) (by simp; have := D3.size; omega) grow4 (by intro j hj; have := (gsv j hj).1; have := d2.size; omega)
          have Z4 : w2.heap.size ≤ w4.heap.size := by have := grow4.size; simp at this; omega
          exact ⟨⟨k + 1, by simp, by omega, D4, Z4, Bk4, O4⟩, by simp [intOf]; omega⟩
        · have hb' : ¬ bits .and .u16 (v / 2 ^ k) 1 = 1 := by simpa [bitB] using hb
          go_wp2_with fail
          have O4 := O3
          rw [← ksL_no v k hb] at O4
          exact ⟨⟨k + 1, by simp, by omega, D3, Z3, B3, O4⟩, by simp [intOf]; omega⟩
set_option maxHeartbeats 1000000 in
theorem walk0 (a0 : Option Addr) (cap : Nat) (v : Int) (w : World) (hv0 : 0 ≤ v) (hv1 : v ≤ 65535) :
    Calls Try.prog 4 #[.slice a0 0 cap, .int .u16 v] w fun e w' => e = .returned (.bool true) ∧ Below w.heap.size w w' := by
  obtain ⟨i0, hi, hz0, hz1, hz2⟩ := info_parts info3
  have IZ : ∀ W, Calls Try.prog 12 #[.int .u32 0] W fun e w' => e = .returned (.agg #[.bool false, .int .u32 0, .int .u32 0, .int .u32 0, .int .u16 0, .int .u16 0]) ∧ Below W.heap.size W w' := fun W => int_c 0 W
  have cp : Nat → Cp := fun _ => Cp.int 0
  go_enter Try.func4, Try.ntmps4
  go_wp2_with fail
  ((with_reducible refine (known_c _).mono ?_); rintro e w1 ⟨rfl, hb1⟩)
  go_wp2_with fail
  ((with_reducible refine (new_c _).mono ?_); rintro e w2 ⟨g, rfl, hg2, B2, hb2⟩)
  have d2 := bt hb1 hb2
  have L2 := B2.lt
  have hgw : w.heap.size ≤ g := Nat.le_trans hb1.size hg2
  go_wp2_with fail
  go_loopw [6, 7] (fun sv i wr => ∃ k : Nat, i = .int .i64 (k : Int) ∧ k ≤ 16 ∧ Below w.heap.size w wr ∧ w2.heap.size ≤ wr.heap.size ∧ Blk wr g (fileC (setC cp 0 k)) 48 ∧ wr.ownsRow w2.heap.size 3 1 sv (ksL v k).length ((ksL v k).map (Value.int .i64))) (fun _ i _ => (16 - intOf i).toNat)
  case atStart => exact ⟨0, rfl, by omega, d2, Nat.le_refl _, by rw [setC_zero]; exact B2, World.ownsRow_nil _ _ _ _⟩
  case round =>
    obtain ⟨k, rfl, hk, D, Z, B, O⟩ := hrel
    by_cases h : k = 16
    · subst h
      obtain ⟨wo, rfl⟩ : ∃ wo : World, wo = wr := ⟨_, rfl⟩
      have IT := Ints.of_own O (Nat.le_trans (ksL_len v 16) (by omega))
      have hne := O.lt
      go_wp2_with fail
      (refine (keep_c g _ (ksL v 16) (setC cp 0 16) _ B IT (by intro e; have := (hne g e).1; omega)).mono ?_; rintro e w3 ⟨rfl, B3, G3⟩)
      have D3 := bgrown D (by have := D.size; omega) G3 (by intro j hj; have := Option.some.inj hj; omega)
      obtain ⟨C, hC⟩ : ∃ C, C = keepC (setC cp 0 16) (ksL v 16) 16 := ⟨_, rfl⟩
      rw [← hC] at B3
      have HC : ∀ j, j < 16 → C j = if bitB v j = false then Cp.int 0 else setC cp 0 16 j := fun j hj => by
        rw [hC]
        unfold keepC
        rw [ksL_has v 16 j hj]
        by_cases hbj : bitB v j = false
        · rw [if_pos ⟨hj, hbj⟩, if_pos hbj]
        · rw [if_neg (fun h => hbj h.2), if_neg hbj]
      clear hC B IT hne O D Z G3
      go_wp2_with fail
      go_loopw [8] (fun i wq => ∃ k : Nat, i = .int .i64 (k : Int) ∧ k ≤ 16 ∧ Below w.heap.size w wq ∧ Blk wq g (fileC C) 48) (fun i _ => (16 - intOf i).toNat)
      case atStart => exact ⟨0, rfl, by omega, D3, B3⟩
      case round =>
        obtain ⟨k, rfl, hk, D', B'⟩ := hrel
        clear B3 D3
        by_cases h : k = 16
        · subst h
          go_wp2
          go_ret
          exact ⟨rfl, D'⟩
        · have h1 : (k : Int) < 16 := by omega
          by_cases h5' : k = 0
          · subst h5'
            go_upto_region 23 with (first
              | (go_at_call 12; (with_reducible refine (IZ _).mono ?_); rintro e w4 ⟨rfl, hb4⟩; fail)
              | (go_at_call 12; (with_reducible refine (IZ _).mono ?_); rintro e w4 ⟨rfl, hb4⟩))
            try simp only [List.append_eq, List.cons_append, List.nil_append]
            refine reg_draw (by kernel_rfl) (by kernel_rfl) (fun W => Below w.heap.size w W ∧ Blk W g (fileC C) 48 ∧ Blk W w4.heap.size #[.bool false, .int .u32 0, .int .u32 0, .int .u32 0, .int .u16 0, .int .u16 0] 31) ⟨ba (bt D' hb4) _, (B'.later hb4).alloc _, Blk.new _ _ _ _ rfl⟩ ?_
            rintro W ⟨DW, BW, NW⟩
            have CN := NW.at_
            have GW : ∀ u : Later W, Calls Try.prog 14 #[.pointer (some ⟨g, 0, none⟩), .int .i64 0] u.w fun e w' => e = .returned (.agg #[.bool false, .int .u32 0, .int .u32 0, .int .u32 0, .int .u16 0, .int .u16 0]) ∧ Below u.w.heap.size u.w w' := fun u => get_no g 0 u.w (by omega)
            clear NW
            repeat (go_big_quiet_step (first | (go_at_call 14; with_reducible exact Later.call (GW _))))
            refine wpQuiet_nil ?_
            rintro _ ⟨u, rfl⟩
            go_wp2
            exact ⟨⟨0 + 1, by simp, by omega, bt DW u.below, (by assumption : Blk W g (fileC C) 48).later u.below⟩, by simp [intOf]⟩
          · have h5 : 0 < k := by omega
            have h2 : (0 : Int) < (k : Int) := by omega
            have h6 : (0 : Int) ≤ (k : Int) := by omega
            have hCk := HC k (by omega)
            by_cases hkn : k < 0
            · exact absurd hkn (Nat.not_lt_zero _)
            · have h3 : ¬ (k : Int) < 0 := by omega
              have hCk : C k = Cp.int 0 := by
                rw [hCk]
                unfold setC
                split
                · rfl
                · rw [if_neg (by omega)]
              go_upto_region 23 with (first
                | (go_at_call 12; (with_reducible refine (IZ _).mono ?_); rintro e w4 ⟨rfl, hb4⟩; fail)
                | (go_at_call 12; (with_reducible refine (IZ _).mono ?_); rintro e w4 ⟨rfl, hb4⟩))
              try simp only [List.append_eq, List.cons_append, List.nil_append]
              refine reg_draw (by kernel_rfl) (by kernel_rfl) (fun W => Below w.heap.size w W ∧ Blk W g (fileC C) 48 ∧ Blk W w4.heap.size #[.bool false, .int .u32 0, .int .u32 0, .int .u32 0, .int .u16 0, .int .u16 0] 31) ⟨ba (bt D' hb4) _, (B'.later hb4).alloc _, Blk.new _ _ _ _ rfl⟩ ?_
              rintro W ⟨DW, BW, NW⟩
              have CN := NW.at_
              have GW : ∀ u : Later W, Calls Try.prog 14 #[.pointer (some ⟨g, 0, none⟩), .int .i64 (k : Int)] u.w fun e w' => e = .returned (.agg #[.bool false, .int .u32 0, .int .u32 0, .int .u32 0, .int .u16 0, .int .u16 0]) ∧ Below u.w.heap.size u.w w' := fun u => by have h := get_c g k C u.w (BW.later u.below) h5 (by omega); rw [hCk] at h; exact h
              clear NW
              repeat (go_big_quiet_step (first | (go_at_call 14; with_reducible exact Later.call (GW _))))
              refine wpQuiet_nil ?_
              rintro _ ⟨u, rfl⟩
              go_wp2
              exact ⟨⟨k + 1, by simp, by omega, bt DW u.below, (by assumption : Blk W g (fileC C) 48).later u.below⟩, by simp [intOf]; omega⟩
    · have h1 : (k : Int) < 16 := by omega
      have h2 : (0 : Int) ≤ (k : Int) := by omega
      have hlen : (ksL v k).length ≤ 40 := Nat.le_trans (ksL_len v k) (by omega)
      have gb := O.lt
      by_cases hkn : k < 0
      · exact absurd hkn (Nat.not_lt_zero _)
      · have h3 : ¬ (k : Int) < 0 := by omega
        have B3 : Blk wr g (fileC (setC cp 0 (k + 1))) 48 := by rw [setC_past cp 0 k hkn]; exact B
        have O3 := O
        have Z3 := Z
        have D3 := D
        rcases Bool.eq_false_or_eq_true (bitB v k) with hb | hb
        · have hb' : bits .and .u16 (v / 2 ^ k) 1 = 1 := by simpa [bitB] using hb
          go_wp2_with (first
            | (at_builtin; refine wpList_append_own_at _ rfl _ _ 32 rfl w2.heap.size 3 i0 (.int .i64 0) 1 8 Try.underlying32 hi hz0 hz1 hz2 rfl (by decide) _ _ _ rfl (O3.alloc _) ⟨_, 0, none⟩ 1 1 _ rfl rfl (one_new _ _ _ _ rfl) (oc _ _) (le_max hlen) (le_bytes hlen) (le_alloc Z3 _) ?_; intro v1 w4 own4 grow4 nil4 far4))
          have O4 : w4.ownsRow w2.heap.size 3 1 v1 (ksL v (k + 1)).length ((ksL v (k + 1)).map (Value.int .i64)) := by
            rw [ksL_yes v k hb]
            simpa using own4
          have gsv := O.lt
          have Bk4 := (B3.alloc (.cells #[.int .i64 (k : Int)] 3)).grown grow4 (by intro e; have := (gsv g e.symm).1; omega)
          have D4 := bgrown (ba D3 (.cells #[.int .i64 (k : Int)] 3)) (by simp; have := D3.size; omega) grow4 (by intro j hj; have := (gsv j hj).1; have := d2.size; omega)
          have Z4 : w2.heap.size ≤ w4.heap.size := by have := grow4.size; simp at this; omega
          exact ⟨⟨k + 1, by simp, by omega, D4, Z4, Bk4, O4⟩, by simp [intOf]; omega⟩
        · have hb' : ¬ bits .and .u16 (v / 2 ^ k) 1 = 1 := by simpa [bitB] using hb
          go_wp2_with fail
          have O4 := O3
          rw [← ksL_no v k hb] at O4
          exact ⟨⟨k + 1, by simp, by omega, D3, Z3, B3, O4⟩, by simp [intOf]; omega⟩
set_option maxHeartbeats 1000000 in
theorem walk_big (a0 : Option Addr) (n cap : Nat) (v : Int) (w : World) (hn : 16 < n) :
    Calls Try.prog 4 #[.slice a0 n cap, .int .u16 v] w fun e w' => e = .returned (.bool true) ∧ Below w.heap.size w w' := by
  have q0 : (16 : Int) < (n : Int) := by omega
  go_enter Try.func4, Try.ntmps4
  go_wp2_with fail
  ((with_reducible refine (known_c _).mono ?_); rintro e w1 ⟨rfl, hb1⟩)
  go_wp2
  go_ret
  exact ⟨rfl, hb1⟩


/-! ### The row -/
set_option maxRecDepth 100000 in
theorem lifted (os : Os) (started : os.Started) (H : Type) (enc : TypeId × Value → H) :
    ReturnsInHanded {} Try.checked os 4 .any (Rows.regsKeepSpec.pre6 enc Try.prog Try.f4 Rows.regsKeepRow.domain false) (Rows.regsKeepSpec.post enc Try.prog Try.f4 false true false false) := by
  refine returnsInHanded_of_change (C := Try.checked) own started (by kernel_rfl) Try.func4
    (ChangeSpec.witness6 (enc := enc) (C := Try.checked) false ⟨#[], #[.slice none 0 0, .int .u16 0], []⟩ 8 (by kernel_rfl) (by kernel_rfl) (by kernel_rfl) (by kernel_rfl)) ?_
  intro W base args ds gs before hval0 hW hcnd _
  have hval : ∀ (j : Nat) t v, Try.f4.params[j]? = some t → args[j]? = some v → Value.okWide Try.prog W .any base t v := hval0
  have hW' := hW
  obtain ⟨p, q, hA0, hV, rfl, hfz, hnd⟩ := hW
  have hA : DataW.TrodAll enc Try.prog W 0 (fun _ => true) true Try.f4.params.toList args.toList ds p := hA0
  rw [Try.params4] at hA hval
  obtain ⟨v0, vs0, d0, ds0, p0, q0, hargs, rfl, rfl, h0, r0⟩ := trodAll_cons hA
  obtain ⟨v1, vs1, d1, ds1, p1, q1, rfl, rfl, rfl, h1, r1⟩ := trodAll_cons r0
  obtain ⟨rfl, rfl, rfl⟩ := trodAll_nil r1
  obtain rfl : args = #[v0, v1] := by cases args; simp_all
  obtain ⟨rfl, rfl⟩ := trodVars_none hV
  have k0 := h0
  have l0 : ∀ x ∈ p0, x.block < W.heap.size := by obtain ⟨m, hm⟩ := k0; exact DataW.trod_lt m _ _ _ hm
  obtain ⟨a0, len, cap, rfl, hcaps⟩ := open_caps h0 (okWide_slice Try.underlying44 (hval 0 44 v0 rfl rfl))
  obtain ⟨v, rfl, rfl, rfl, w1⟩ := open_int Try.underlying27 (hval 1 27 v1 rfl rfl) h1
  obtain ⟨hv0, hv1⟩ := bounds_u16 w1
  have main : Calls Try.prog 4 #[.slice a0 len cap, .int .u16 v] W fun e w' => e = .returned (.bool true) ∧ Below W.heap.size W w' := by
    rcases hcaps with rfl | ⟨b, off, cp, rfl, hl, hc⟩
    · exact walk0 a0 cap v W hv0 hv1
    · by_cases hb : 16 < len
      · exact walk_big _ len cap v W hb
      · exact walk b off len cap cp v W hc (by omega) hl hv0 hv1
  clear hA0 hval0
  refine main.mono fun e W' ⟨he, bel⟩ => ?_
  subst he
  exact ⟨_, rfl, _, _, _, [], _, [], hW', trodAll_mk1 (shut_bool Try.underlying4 _), (trodAll_cons_mk (Below.trod laidOut (by kernel_rfl) (of_decide_eq_true (by kernel_rfl)) k0 bel l0) (trodAll_cons_mk (shut_int Try.underlying27 w1) trodAll_mk0)), rfl, bel.frame _, fun h => by cases h⟩

theorem said : Rows.RegsKeepSaid :=
  OpenClaim.holds_of_wide 4 Try.f4 rfl rfl rfl rfl rfl rfl rfl ⟨rfl, rfl, rfl, rfl, rfl⟩ rfl rfl rfl rfl rfl (by kernel_rfl) Try.func4 (by kernel_rfl)
    (of_decide_eq_true (by kernel_rfl)) (by unfold Func.isWrapper; first | (rw [if_pos (by decide +kernel)]; kernel_rfl) | (rw [if_neg (by decide +kernel)]; exact ⟨rfl, rfl⟩))
    (fun os started H enc _ => lifted os started H enc)
end Go.Proofs.Ytfjknnhhgnnpaaa.lawRegsKeep
