/- Keep of an empty list, whatever its address; a play's act, opened. No condition. -/
import Derived.Test.YtfjknnhhgnnpaaaF
import Derived.Deep.RegionWith
namespace Go.Proofs.Ytfjknnhhgnnpaaa
open Go.RowKit Go.ChangeShapes Go.WideShapes Go.Deep
set_option linter.unusedVariables false
set_option linter.unusedSimpArgs false

theorem index_z (a : Option Addr) (cap : Nat) (x : Int) (w : World) :
    Calls Try.prog 17 #[.slice a 0 cap, .int .i64 x] w fun e w' => e = .returned (.int .i64 (-1)) ∧ w' = w := by
  go_enter Try.func17, Try.ntmps17
  go_wp2
  go_rounds 1
  go_ret
  exact ⟨rfl, rfl⟩
theorem contains_z (a : Option Addr) (cap : Nat) (x : Int) (w : World) :
    Calls Try.prog 16 #[.slice a 0 cap, .int .i64 x] w fun e w' => e = .returned (.bool (([] : List Int).contains x)) ∧ w' = w := by
  go_enter Try.func16, Try.ntmps16
  go_wp2_with (go_at_call 17; (with_reducible refine (index_z _ _ _ _).mono ?_); rintro e w1 ⟨rfl, rfl⟩)
  go_ret
  exact ⟨by simp, rfl⟩
set_option maxHeartbeats 1000000 in
theorem keep_z (g : Nat) (a : Option Addr) (cap : Nat) (c : Nat → Cp) (w : World) (hB : Blk w g (fileC c) 48) :
    Calls Try.prog 9 #[.pointer (some ⟨g, 0, none⟩), .slice a 0 cap] w fun e w' => e = .returned (.tuple #[]) ∧ Blk w' g (fileC (keepC c [] 16)) 48 ∧ w.grownBy w' (some g) := by
  have I12 := int_c 0
  unfold intC Cp.int Cp.val at I12
  go_enter Try.func9, Try.ntmps9
  go_wp2
  go_loopw [5] (fun i wr => ∃ k : Nat, i = .int .i64 (k : Int) ∧ k ≤ 16 ∧ Blk wr g (fileC (keepC c [] k)) 48 ∧ w.grownBy wr (some g)) (fun i _ => (16 - intOf i).toNat)
  case atStart => exact ⟨0, rfl, by omega, by rw [keepC_zero]; exact hB, gb_refl w g⟩
  case round =>
    obtain ⟨k, rfl, hk, B1, G1⟩ := hrel
    by_cases h : k = 16
    · subst h
      go_wp2
      refine bodyPost_end (results_none rfl _ _ _) rfl ⟨rfl, B1, G1⟩
    · have h1 : (k : Int) < 16 := by omega
      have h2 : (0 : Int) ≤ (k : Int) := by omega
      have hk16 : k < 16 := by omega
      rcases Bool.eq_false_or_eq_true (([] : List Int).contains (k : Int)) with hx | hx
      · have C16 := contains_z a cap (k : Int) wr
        rw [hx] at C16
        go_wp2_with (go_at_call 16; (with_reducible refine C16.mono ?_); rintro e w1 ⟨rfl, rfl⟩)
        exact ⟨⟨k + 1, by simp, by omega, by rw [keepC_yes c [] k hx]; exact B1, G1⟩, by simp [intOf]; omega⟩
      · have C16 := contains_z a cap (k : Int) wr
        rw [hx] at C16
        obtain ⟨f0, f1, f2, f3, f4, f5⟩ := fileC_get (keepC c [] k) k hk16
        have hset := fileC_set (keepC c [] k) k (Cp.int 0) hk16
        go_wp2_with (go_at_call 16; (with_reducible refine C16.mono ?_); rintro e w1 ⟨rfl, rfl⟩)
        go_region_with ((go_at_call 12; (with_reducible refine (I12 _).mono ?_); rintro e w2 ⟨rfl, hb2⟩; have D := Blk.later (w := w1.drew) B1 hb2; have d0 := (D.cell _).trans f0; have d1 := (D.cell _).trans f1; have d2 := (D.cell _).trans f2; have d3 := (D.cell _).trans f3; have d4 := (D.cell _).trans f4; have d5 := (D.cell _).trans f5; have ds := D.soft; have dl := D.lt))
        have BB := (((((D.set (k * 6) (.bool false)).set (k * 6 + 1) (.int .u32 0)).set (k * 6 + 2) (.int .u32 0)).set (k * 6 + 3) (.int .u32 0)).set (k * 6 + 4) (.int .u16 0)).set (k * 6 + 5) (.int .u16 0)
        change Blk _ g (wrC (fileC (keepC c [] k)) k (Cp.int 0)) 48 at BB
        rw [hset, ← keepC_no c [] k hx] at BB
        have GG := gb_set (gb_set (gb_set (gb_set (gb_set (gb_set (gb_below (gb_drew G1) hb2) (k * 6) (.bool false)) (k * 6 + 1) (.int .u32 0)) (k * 6 + 2) (.int .u32 0)) (k * 6 + 3) (.int .u32 0)) (k * 6 + 4) (.int .u16 0)) (k * 6 + 5) (.int .u16 0)
        clear d0 d1 d2 d3 d4 d5 ds dl D f0 f1 f2 f3 f4 f5 hset C16
        go_wp2
        exact ⟨⟨k + 1, by simp, by omega, BB, GG⟩, by simp [intOf]; omega⟩

/-- A list that came in: empty, or it lies in a block below B. -/
def Lst (w : World) (B : Nat) (sv : Value) (xs : List Int) : Prop := ∃ a n cap, sv = .slice a n cap ∧ xs.length = n ∧
  (n = 0 ∨ ∃ b off, a = some ⟨b, off, none⟩ ∧ b < B ∧ ∀ j, j < n → w.cell? ⟨b, off + j, none⟩ = some (.int .i64 (xs.getD j 0)))
theorem keep_any (g B : Nat) (sv : Value) (xs : List Int) (c : Nat → Cp) (w0 w : World) (hB : Blk w g (fileC c) 48) (hl : Lst w0 B sv xs) (hs : B ≤ w0.heap.size) (hb : Below B w0 w) (hg : B ≤ g) (hn : xs.length ≤ 40) :
    Calls Try.prog 9 #[.pointer (some ⟨g, 0, none⟩), sv] w fun e w' => e = .returned (.tuple #[]) ∧ Blk w' g (fileC (keepC c xs 16)) 48 ∧ w.grownBy w' (some g) := by
  obtain ⟨a, n, cap, rfl, h1, h2 | ⟨b, off, rfl, h3, h4⟩⟩ := hl
  · subst h2
    obtain rfl := List.eq_nil_of_length_eq_zero h1
    exact keep_z g a cap c w hB
  · refine keep_c g _ xs c w hB (.inr ⟨b, off, n, cap, rfl, h1, by omega, fun j hj => ?_⟩) (by intro e; have h : b = g := Option.some.inj e; omega)
    rw [hb.cell (p := ⟨b, off + j, none⟩) h3]
    exact h4 j hj

/-- Acts that lie in a row of nine cells each. -/
structure Ac where
  op : Int
  i : Int
  c : Cp
  sv : Value
  xs : List Int
instance : Inhabited Ac := ⟨⟨0, 0, Cp.int 0, undef, []⟩⟩
def Acts (w : World) (b off : Nat) (ac : Nat → Ac) (n : Nat) : Prop := ∀ j, j < n →
  (w.cell? ⟨b, off + j * 9, none⟩ = some (.int .i64 (ac j).op) ∧ w.cell? ⟨b, off + j * 9 + 1, none⟩ = some (.int .i64 (ac j).i) ∧ w.cell? ⟨b, off + j * 9 + 2, none⟩ = some (.bool (ac j).c.tg) ∧ w.cell? ⟨b, off + j * 9 + 3, none⟩ = some (.int .u32 (ac j).c.b) ∧
  w.cell? ⟨b, off + j * 9 + 4, none⟩ = some (.int .u32 (ac j).c.t) ∧ w.cell? ⟨b, off + j * 9 + 5, none⟩ = some (.int .u32 (ac j).c.a) ∧ w.cell? ⟨b, off + j * 9 + 6, none⟩ = some (.int .u16 (ac j).c.p) ∧ w.cell? ⟨b, off + j * 9 + 7, none⟩ = some (.int .u16 (ac j).c.y) ∧
  w.cell? ⟨b, off + j * 9 + 8, none⟩ = some (ac j).sv) ∧ Lst w w.heap.size (ac j).sv (ac j).xs ∧ -9223372036854775808 ≤ (ac j).i ∧ (ac j).i ≤ 9223372036854775807
theorem cells34 : Try.prog.cellsOf 34 = 9 := by kernel_rfl
theorem cells3 : Try.prog.cellsOf 3 = 1 := by kernel_rfl
theorem cells32 : Try.prog.cellsOf 32 = 1 := by kernel_rfl
theorem open_act {H : Type} {enc : TypeId × Value → H} {w : World} {base : Nat} {held : Bool} {fuel : Nat} {l : List Value} {x : DataW H × List MemPlace} (hsz : l.length = 9)
    (hf : DataW.trod enc Try.prog w base (fun _ => true) held fuel 34 l = some x) : ∃ c : Ac, l = [.int .i64 c.op, .int .i64 c.i, .bool c.c.tg, .int .u32 c.c.b, .int .u32 c.c.t, .int .u32 c.c.a, .int .u16 c.c.p, .int .u16 c.c.y, c.sv] ∧ Lst w w.heap.size c.sv c.xs ∧ -9223372036854775808 ≤ c.i ∧ c.i ≤ 9223372036854775807 := by
  obtain ⟨xs, n, _, _, _, hlen, hg⟩ := DataW.trod_struct Try.underlying34 hf
  have hx : ∀ i, i < 4 → ∃ x, xs[i]? = some x := fun i hi => ⟨xs[i]'(by rw [hlen]; exact hi), List.getElem?_eq_getElem _⟩
  obtain ⟨x0, e0⟩ := hx 0 (by omega)
  obtain ⟨x1, e1⟩ := hx 1 (by omega)
  obtain ⟨x2, e2⟩ := hx 2 (by omega)
  obtain ⟨x3, e3⟩ := hx 3 (by omega)
  have h0 := (hg 0 _ rfl).trans e0
  have h1 := (hg 1 _ rfl).trans e1
  have h2 := (hg 2 _ rfl).trans e2
  have h3 := (hg 3 _ rfl).trans e3
  obtain ⟨op, c0, -, w0⟩ := DataW.trod_int Try.underlying3 h0
  obtain ⟨i, c1, -, w1⟩ := DataW.trod_int Try.underlying3 h1
  change List.take (Try.prog.cellsOf 3) (List.drop 0 l) = _ at c0
  change List.take (Try.prog.cellsOf 3) (List.drop 1 l) = _ at c1
  change DataW.trod enc Try.prog w base (fun _ => true) held n 31 (List.take (Try.prog.cellsOf 31) (List.drop 2 l)) = some x2 at h2
  change DataW.trod enc Try.prog w base (fun _ => true) held n 32 (List.take (Try.prog.cellsOf 32) (List.drop 8 l)) = some x3 at h3
  rw [cells3] at c0 c1
  rw [cells31] at h2
  rw [cells32] at h3
  obtain ⟨c, c2⟩ := open_cells (by simp; omega) h2
  match l, hsz with
  | [v0, v1, v2, v3, v4, v5, v6, v7, v8], _ =>
    simp at c0 c1
    simp [Cp.cells] at c2
    obtain ⟨rfl, rfl, rfl, rfl, rfl, rfl⟩ := c2
    subst c0 c1
    change DataW.trod enc Try.prog w base (fun _ => true) held n 32 [v8] = some x3 at h3
    have hb := bounds_i64 w1
    rcases open_ints Try.underlying32 Try.underlying3 cells3 h3 with ⟨hcs, _⟩ | ⟨y, len, cap, zs, hcs, _, hl, hm, hz, _, hcell, _⟩
    · simp at hcs
      subst hcs
      exact ⟨⟨op, i, c, _, []⟩, rfl, ⟨none, 0, 0, rfl, rfl, .inl rfl⟩, hb.1, hb.2⟩
    · simp at hcs
      subst hcs
      refine ⟨⟨op, i, c, _, zs.take len⟩, rfl, ⟨some y, len, cap, rfl, by simp at hz; simp; omega, ?_⟩, hb.1, hb.2⟩
      by_cases hl0 : len = 0
      · exact .inl hl0
      · right
        have hzc : zs.length = cap := by simpa using hz
        obtain ⟨b, off, spot⟩ := y
        have hc := hcell 0 (by omega)
        have hspot : spot = none := by simpa [Addr.add] using World.cell?_spot hc
        subst hspot
        refine ⟨b, off, rfl, ?_, fun j hj => ?_⟩
        · have := World.block_lt_of_cell? w _ hc
          simpa [Addr.add] using this
        · have := hcell j (by omega)
          rw [Addr.add_mid] at this
          rw [this]
          simp [List.getD_eq_getElem?_getD, List.getElem?_take, hj]
end Go.Proofs.Ytfjknnhhgnnpaaa
