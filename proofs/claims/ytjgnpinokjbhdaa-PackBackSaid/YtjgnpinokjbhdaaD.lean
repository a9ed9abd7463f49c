/- The later worlds' class and blocks known whole; the contract of pack.Get over this translation. No condition but that bytes are bytes. -/
import Derived.Test.YtjgnpinokjbhdaaC
import Derived.Deep.Cut
import Derived.Stop.BytesEq
namespace Go.Proofs.Ytjgnpinokjbhdaa
open Go.RowKit
set_option linter.unusedVariables false
set_option linter.unusedSimpArgs false

/-- A later world: what lay in w0 is as it was. -/
structure Later (w0 : World) where
  w : World
  below : Below w0.heap.size w0 w
instance Later.nonempty (w0 : World) : Nonempty (Later w0) := ⟨⟨w0, Below.refl _ _⟩⟩
theorem Later.call {P : Program} {f : FuncId} {args : Array Value} {w0 : World} {u : Later w0} {v : Value} (h : Calls P f args u.w fun e w' => e = .returned v ∧ Below u.w.heap.size u.w w') :
    Calls P f args u.w fun e w'' => e = .returned v ∧ ∃ u' : Later w0, w'' = u'.w :=
  h.mono fun _ w' ⟨he, hb⟩ => ⟨he, ⟨w', u.below.trans (hb.mono u.below.size)⟩, rfl⟩
theorem wp_later {P : Program} {id : Nat} {Q : Exit → Act → World → Prop} {a : Act} {w w0 : World} {l : List Oper} (hm : P.follows .mixedOrders = true) (hB : Region.lexB .any l.toArray = true) (hC : Below w0.heap.size w0 w)
    (h : wpQuiet P l.toArray (fun w' => ∃ u : Later w0, w' = u.w) (fun a' => ∀ w', (∃ u : Later w0, w' = u.w) → Q .normal a' w') l a) : (Code.region id l.toArray true).wp P Q a w :=
  wp_region_quiet (C := fun w' => ∃ u : Later w0, w' = u.w) hm hB ⟨⟨w.drew, hC.drew⟩, rfl⟩ (by simpa using h)
theorem wpList_of_quiet {P : Program} {ops : Array Oper} {C : World → Prop} {Q : Exit → Act → World → Prop} : ∀ (l : List Oper) (a : Act) (w : World), C w →
    wpQuiet P ops C (fun a' => ∀ w', C w' → Q .normal a' w') l a → wpList P ops Q l a w
  | [], _, w, hw, h => h w hw
  | o :: l, a, w, hw, h => by
    unfold wpQuiet at h
    unfold wpList
    split at h
    · rename_i hg
      rw [if_pos hg]
      exact .inl (Oper.wp_of_quiet hw (fun a' w' hw' hk => wpList_of_quiet l a' w' hw' hk) h)
    · rename_i hg
      rw [if_neg hg]
      exact wpList_of_quiet l _ w hw h
section
variable {P : Program} {id : Nat} {Q : Exit → Act → World → Prop} {a : Act} {w : World} {l : List Oper}
theorem reg_plain (F : World → Prop) (hF : F w) (h : ∀ W, F W → wpQuiet P l.toArray (fun w' => ∃ u : Later W, w' = u.w) (fun a' => ∀ w', (∃ u : Later W, w' = u.w) → Q .normal a' w') l a) : (Code.region id l.toArray false).wp P Q a w :=
  wp_region_lit (wpList_of_quiet (C := fun w' => ∃ u : Later w, w' = u.w) l a w ⟨⟨w, Below.refl _ _⟩, rfl⟩ (h w hF))
theorem reg_draw (hm : P.follows .mixedOrders = true) (hB : Region.lexB .any l.toArray = true) (F : World → Prop) (hF : F w)
    (h : ∀ W, F W → wpQuiet P l.toArray (fun w' => ∃ u : Later W, w' = u.w) (fun a' => ∀ w', (∃ u : Later W, w' = u.w) → Q .normal a' w') l a) : (Code.region id l.toArray true).wp P Q a w :=
  wp_later (w0 := w) hm hB (Below.refl _ _) (h w hF)
end

/-- A block known whole. -/
def Blk (w : World) (b : Nat) (c : Array Value) (t : TypeId) : Prop := w.heap[b]? = some (.cells c t (0, 0))
theorem Blk.new (w : World) (c : Array Value) (t : TypeId) (n : Nat) (h : w.heap.size = n) : Blk (w.alloc (.cells c t)) n c t := by
  subst h
  show (w.heap.push _)[w.heap.size]? = _
  exact Array.getElem?_push_size
theorem Blk.lt {w : World} {b : Nat} {c : Array Value} {t : TypeId} (h : Blk w b c t) : b < w.heap.size := (Array.getElem?_eq_some_iff.1 h).1
theorem Blk.alloc {w : World} {b : Nat} {c : Array Value} {t : TypeId} (h : Blk w b c t) (o : Obj) : Blk (w.alloc o) b c t := by
  have := h.lt
  unfold Blk at h ⊢
  rw [Below.heap_alloc w o b this, h]
theorem Blk.later {w w1 : World} {b : Nat} {c : Array Value} {t : TypeId} (h : Blk w b c t) (hb : Below w.heap.size w w1) : Blk w1 b c t := (hb.block b h.lt).trans h
theorem Blk.cell {w : World} {b : Nat} {c : Array Value} {t : TypeId} (h : Blk w b c t) : ∀ o, w.cell? ⟨b, o, none⟩ = c[o]? := fun o => by
  unfold World.cell?
  unfold Blk at h
  rw [h]
  simp
theorem Blk.soft {w : World} {b : Nat} {c : Array Value} {t : TypeId} (h : Blk w b c t) : ∀ o, w.frozen? ⟨b, o, none⟩ = false := fun o => by
  unfold World.frozen?
  unfold Blk at h
  rw [h]
  simp
theorem Blk.set {w : World} {b : Nat} {c : Array Value} {t : TypeId} (h : Blk w b c t) (i : Nat) (v : Value) : Blk (w.setCell ⟨b, i, none⟩ v) b (c.setIfInBounds i v) t := by
  unfold Blk at h ⊢
  simp [World.setCell, Array.getElem?_modify, h]
theorem Blk.other {w : World} {b : Nat} {c : Array Value} {t : TypeId} (h : Blk w b c t) (a : Addr) (v : Value) (hne : a.block ≠ b) : Blk (w.setCell a v) b c t := by
  unfold Blk at h ⊢
  simp [World.setCell, Array.getElem?_modify, h, hne]
theorem Blk.at_ {W : World} {b : Nat} {c : Array Value} {t : TypeId} (h : Blk W b c t) : ∀ (u : Later W) o, u.w.cell? ⟨b, o, none⟩ = c[o]? := fun u => (h.later u.below).cell

/-! Two rows of bytes are one and the same, or not -/
theorem all_range_eqI : ∀ (xs ys : List Int), xs.length = ys.length → ((List.range xs.length).all fun i => xs.getD i 0 == ys.getD i 0) = (xs == ys)
  | [], [], _ => rfl
  | x :: xs, y :: ys, h => by
    have ih := all_range_eqI xs ys (by simpa using h)
    rw [List.length_cons, List.range_succ_eq_map, List.all_cons, List.all_map]
    simp only [List.getD_cons_zero, Function.comp_def, List.getD_cons_succ, ih]
    simp [List.cons_beq_cons]
  | [], _ :: _, h => by simp at h
  | _ :: _, [], h => by simp at h
theorem run_eqlI {P : Program} (w : World) (t e : TypeId) (n : Nat) (k : IntKind) (ht : P.underlying t = some (.array n e)) (he : P.underlying e = some (.int k)) (hsz : ∀ w, (sizeOf e).run P w = .ok 1 w)
    (xs ys : List Int) (hx : xs.length = n) (hy : ys.length = n) :
    (binOp .eql t (.agg (xs.map (Value.int k)).toArray) (.agg (ys.map (Value.int k)).toArray)).run P w = .ok (.bool (xs == ys)) w := by
  rw [run_eql_struct]
  have key : (Op.equalIn (9998 + 2) t (.agg (xs.map (Value.int k)).toArray) (.agg (ys.map (Value.int k)).toArray)).run P w = .ok (xs == ys) w := by
    rw [← all_range_eqI xs ys (hx.trans hy.symm), hx, List.range_eq_range', Op.equalIn]
    simp only [Sem.run_bind, run_underlying ht, Result.andThen_ok, hsz, Std.Legacy.Range.forIn_eq_forIn_range', Std.Legacy.Range.size, Nat.sub_zero, Nat.add_sub_cancel, Nat.div_one]
    have hl : ∀ i ∈ List.range' 0 n 1, i < n := fun i hi => by simpa using (List.mem_range'_1.1 hi).2
    generalize List.range' 0 n 1 = l at hl ⊢
    induction l with
    | nil => simp
    | cons i l ih =>
      have hi : i < n := hl i (by simp)
      have px : (part e (xs.map (Value.int k)).toArray (i * 1)).run P w = .ok (.int k (xs.getD i 0)) w := by
        simp [part, isAgg, run_underlying he, List.getD, List.getElem?_eq_getElem (show i < xs.length by omega)]
      have py : (part e (ys.map (Value.int k)).toArray (i * 1)).run P w = .ok (.int k (ys.getD i 0)) w := by
        simp [part, isAgg, run_underlying he, List.getD, List.getElem?_eq_getElem (show i < ys.length by omega)]
      have pe : (Op.equalIn (9998 + 1) e (.int k (xs.getD i 0)) (.int k (ys.getD i 0))).run P w = .ok (xs.getD i 0 == ys.getD i 0) w :=
        run_equalIn_int w 9998 e k k _ _ he
      simp only [List.forIn_cons, Sem.run_bind, px, py, pe, Result.andThen_ok, List.all_cons]
      cases hb : (xs.getD i 0 == ys.getD i 0)
      · simp
      · simp only [Bool.not_true, Bool.false_eq_true, if_false, Sem.run_pure, Result.andThen_ok, Bool.true_and]
        exact ih fun j hj => hl j (by simp [hj])
  rw [key]
  rfl
theorem sz5 : ∀ w, (sizeOf 5).run Try.prog w = .ok 1 w := fun w => by kernel_rfl

theorem le4_u {x0 x1 x2 x3 : Int} (h0 : U8 x0) (h1 : U8 x1) (h2 : U8 x2) (h3 : U8 x3) : U32 (le4 x0 x1 x2 x3) := by unfold U8 at *; unfold U32 le4; omega
theorem le2_u {x0 x1 : Int} (h0 : U8 x0) (h1 : U8 x1) : U16 (le2 x0 x1) := by unfold U8 at *; unfold U16 le2; omega

set_option maxHeartbeats 2000000 in
theorem get_c (tg : Bool) (x0 x1 x2 x3 x4 x5 x6 x7 x8 x9 x10 x11 x12 x13 x14 x15 : Int) (w : World) (h0 : U8 x0) (h1 : U8 x1) (h2 : U8 x2) (h3 : U8 x3) (h4 : U8 x4) (h5 : U8 x5) (h6 : U8 x6) (h7 : U8 x7) (h8 : U8 x8) (h9 : U8 x9) (h10 : U8 x10) (h11 : U8 x11) (h12 : U8 x12) (h13 : U8 x13) (h14 : U8 x14) (h15 : U8 x15) :
    Calls Try.prog 10 #[.agg #[.int .u8 x0, .int .u8 x1, .int .u8 x2, .int .u8 x3, .int .u8 x4, .int .u8 x5, .int .u8 x6, .int .u8 x7, .int .u8 x8, .int .u8 x9, .int .u8 x10, .int .u8 x11, .int .u8 x12, .int .u8 x13, .int .u8 x14, .int .u8 x15], .bool tg] w fun e w' => e = .returned (.agg #[.bool tg, .int .u32 (le4 x0 x1 x2 x3), .int .u32 (le4 x4 x5 x6 x7), .int .u32 (le4 x8 x9 x10 x11), .int .u16 (le2 x12 x13), .int .u16 (le2 x14 x15)]) ∧ Below w.heap.size w w' := by
  have p12 := (le2_u h12 h13).1
  have q12 := (le2_u h12 h13).2
  have p14 := (le2_u h14 h15).1
  have q14 := (le2_u h14 h15).2
  go_enter Try.func10, Try.ntmps10
  go_wp2
  go_loopw [6, 20] (fun sv i wr => ∃ (k : Nat) (m : Int) (c : Array Value), k ≤ 3 ∧ i = .int .i64 m ∧ m = (k : Int) ∧ sv = .slice (some ⟨w.heap.size, 4 * k, none⟩) (16 - 4 * k) (16 - 4 * k) ∧
      c = #[#[.bool tg, .int .u32 0, .int .u32 0, .int .u32 0, .int .u16 0, .int .u16 0], #[.bool tg, .int .u32 (le4 x0 x1 x2 x3), .int .u32 0, .int .u32 0, .int .u16 0, .int .u16 0], #[.bool tg, .int .u32 (le4 x0 x1 x2 x3), .int .u32 (le4 x4 x5 x6 x7), .int .u32 0, .int .u16 0, .int .u16 0], #[.bool tg, .int .u32 (le4 x0 x1 x2 x3), .int .u32 (le4 x4 x5 x6 x7), .int .u32 (le4 x8 x9 x10 x11), .int .u16 0, .int .u16 0]][k]! ∧ Below w.heap.size w wr ∧ Blk wr w.heap.size #[.int .u8 x0, .int .u8 x1, .int .u8 x2, .int .u8 x3, .int .u8 x4, .int .u8 x5, .int .u8 x6, .int .u8 x7, .int .u8 x8, .int .u8 x9, .int .u8 x10, .int .u8 x11, .int .u8 x12, .int .u8 x13, .int .u8 x14, .int .u8 x15] 27 ∧ Blk wr (w.heap.size + 1) #[.bool false, .int .u32 0, .int .u32 0, .int .u32 0, .int .u16 0, .int .u16 0] 25 ∧ Blk wr (w.heap.size + 1 + 1) c 25 ∧ Blk wr (w.heap.size + 1 + 1 + 1) #[.pointer (some ⟨w.heap.size + 1 + 1, 1, none⟩), .pointer (some ⟨w.heap.size + 1 + 1, 2, none⟩), .pointer (some ⟨w.heap.size + 1 + 1, 3, none⟩)] 43) (fun _ i _ => (3 - intOf i).toNat)
  case atStart => exact ⟨0, 0, _, by omega, rfl, rfl, rfl, rfl, ba (ba (ba (ba (b0 _) _) _) _) _, by repeat (first | exact Blk.new _ _ _ _ (by first | rfl | (simp; done) | (simp; omega)) | refine Blk.alloc ?_ _), by repeat (first | exact Blk.new _ _ _ _ (by first | rfl | (simp; done) | (simp; omega)) | refine Blk.alloc ?_ _), by repeat (first | exact Blk.new _ _ _ _ (by first | rfl | (simp; done) | (simp; omega)) | refine Blk.alloc ?_ _), by repeat (first | exact Blk.new _ _ _ _ (by first | rfl | (simp; done) | (simp; omega)) | refine Blk.alloc ?_ _)⟩
  case round =>
    obtain ⟨k, m, c, hk, rfl, hm, hs, hc, bel, B0, B1, B2, B3⟩ := hrel
    by_cases g8 : k = 3
    · subst g8
      obtain rfl : m = 3 := by omega
      obtain rfl : c = #[.bool tg, .int .u32 (le4 x0 x1 x2 x3), .int .u32 (le4 x4 x5 x6 x7), .int .u32 (le4 x8 x9 x10 x11), .int .u16 0, .int .u16 0] := hc
      obtain rfl : _ = Value.slice (some ⟨w.heap.size, 12, none⟩) 4 4 := hs
      clear hm hk
      obtain ⟨wo, rfl⟩ : ∃ wo : World, wo = wr := ⟨_, rfl⟩
      have M2 := B2.lt
      go_wp2
      go_loopw [6, 36] (fun sv i wq => ∃ (k : Nat) (m : Int) (c : Array Value), k ≤ 2 ∧ i = .int .i64 m ∧ m = (k : Int) ∧ sv = #[Value.slice (some ⟨w.heap.size, 12, none⟩) 4 4, Value.slice (some ⟨w.heap.size, 14, none⟩) 2 2, Value.slice (some ⟨w.heap.size, 14, none⟩) 0 0][k]! ∧
        c = #[#[.bool tg, .int .u32 (le4 x0 x1 x2 x3), .int .u32 (le4 x4 x5 x6 x7), .int .u32 (le4 x8 x9 x10 x11), .int .u16 0, .int .u16 0], #[.bool tg, .int .u32 (le4 x0 x1 x2 x3), .int .u32 (le4 x4 x5 x6 x7), .int .u32 (le4 x8 x9 x10 x11), .int .u16 (le2 x12 x13), .int .u16 0], #[.bool tg, .int .u32 (le4 x0 x1 x2 x3), .int .u32 (le4 x4 x5 x6 x7), .int .u32 (le4 x8 x9 x10 x11), .int .u16 (le2 x12 x13), .int .u16 (le2 x14 x15)]][k]! ∧ Below w.heap.size w wq ∧ Blk wq w.heap.size #[.int .u8 x0, .int .u8 x1, .int .u8 x2, .int .u8 x3, .int .u8 x4, .int .u8 x5, .int .u8 x6, .int .u8 x7, .int .u8 x8, .int .u8 x9, .int .u8 x10, .int .u8 x11, .int .u8 x12, .int .u8 x13, .int .u8 x14, .int .u8 x15] 27 ∧ Blk wq (w.heap.size + 1) #[.bool false, .int .u32 0, .int .u32 0, .int .u32 0, .int .u16 0, .int .u16 0] 25 ∧ Blk wq (w.heap.size + 1 + 1) c 25 ∧ Blk wq wo.heap.size #[.pointer (some ⟨w.heap.size + 1 + 1, 4, none⟩), .pointer (some ⟨w.heap.size + 1 + 1, 5, none⟩)] 47) (fun _ i _ => (2 - intOf i).toNat)
      case atStart => exact ⟨0, 0, _, by omega, rfl, rfl, rfl, rfl, ba bel _, B0.alloc _, B1.alloc _, B2.alloc _, Blk.new _ _ _ _ rfl⟩
      case round =>
        obtain ⟨k, m, c, hk, rfl, hm, hs, hc, bel', b0', b1', b2', b3'⟩ := hrel
        clear B0 B1 B2 B3
        by_cases g8 : k = 2
        · subst g8
          obtain rfl : m = 2 := by omega
          obtain rfl : c = #[.bool tg, .int .u32 (le4 x0 x1 x2 x3), .int .u32 (le4 x4 x5 x6 x7), .int .u32 (le4 x8 x9 x10 x11), .int .u16 (le2 x12 x13), .int .u16 (le2 x14 x15)] := hc
          obtain rfl : _ = Value.slice (some ⟨w.heap.size, 14, none⟩) 0 0 := hs
          clear hm hk
          have C1 := b1'.cell
          have S1 := b1'.soft
          have C2 := b2'.cell
          have L1 := b1'.lt
          have L2 := b2'.lt
          go_wp2
          refine bodyPost_ret (v := .agg #[.bool tg, .int .u32 (le4 x0 x1 x2 x3), .int .u32 (le4 x4 x5 x6 x7), .int .u32 (le4 x8 x9 x10 x11), .int .u16 (le2 x12 x13), .int .u16 (le2 x14 x15)]) (by simp [results, Try.results10, go_sem, C1, L1]) rfl ⟨rfl, ?_⟩
          repeat (first | (with_reducible exact bel') | (with_reducible refine bs ?_ (by simp) _))
        · have g9 : k = 0 ∨ k = 1 := by omega
          rcases g9 with rfl | rfl
          · obtain rfl : m = 0 := by omega
            obtain rfl : c = #[.bool tg, .int .u32 (le4 x0 x1 x2 x3), .int .u32 (le4 x4 x5 x6 x7), .int .u32 (le4 x8 x9 x10 x11), .int .u16 0, .int .u16 0] := hc
            obtain rfl : _ = Value.slice (some ⟨w.heap.size, 12, none⟩) 4 4 := hs
            clear hm hk g8
            have C2 := b2'.cell
            have S2 := b2'.soft
            have C3 := b3'.cell
            go_wp2_with (go_at_call 14; refine (get2_c _ 12 4 4 x12 x13 _ (b0'.cell 12) (b0'.cell 13) h12 h13 (by omega) (by omega) (by omega)).mono ?_; rintro e w1 ⟨rfl, hb1⟩; have D2 := (b2'.later hb1).cell; have E2 := (b2'.later hb1).soft; have L2 := (b2'.later hb1).lt)
            exact ⟨⟨1, 1, _, by omega, rfl, by omega, rfl, rfl, bs (bt bel' hb1) (by simp; omega) _, (b0'.later hb1).other _ _ (by simp; omega), (b1'.later hb1).other _ _ (by simp), (b2'.later hb1).set 4 _, (b3'.later hb1).other _ _ (by simp; omega)⟩, by simp [intOf]⟩
          · obtain rfl : m = 1 := by omega
            obtain rfl : c = #[.bool tg, .int .u32 (le4 x0 x1 x2 x3), .int .u32 (le4 x4 x5 x6 x7), .int .u32 (le4 x8 x9 x10 x11), .int .u16 (le2 x12 x13), .int .u16 0] := hc
            obtain rfl : _ = Value.slice (some ⟨w.heap.size, 14, none⟩) 2 2 := hs
            clear hm hk g8
            have C2 := b2'.cell
            have S2 := b2'.soft
            have C3 := b3'.cell
            go_wp2_with (go_at_call 14; refine (get2_last _ 14 x14 x15 _ (b0'.cell 14) (b0'.cell 15) h14 h15).mono ?_; rintro e w1 ⟨rfl, hb1⟩; have D2 := (b2'.later hb1).cell; have E2 := (b2'.later hb1).soft; have L2 := (b2'.later hb1).lt)
            exact ⟨⟨2, 2, _, by omega, rfl, by omega, rfl, rfl, bs (bt bel' hb1) (by simp; omega) _, (b0'.later hb1).other _ _ (by simp; omega), (b1'.later hb1).other _ _ (by simp), (b2'.later hb1).set 5 _, (b3'.later hb1).other _ _ (by simp; omega)⟩, by simp [intOf]⟩
    · have g9 : k = 0 ∨ k = 1 ∨ k = 2 := by omega
      rcases g9 with rfl | rfl | rfl
      · obtain rfl : m = 0 := by omega
        obtain rfl : c = #[.bool tg, .int .u32 0, .int .u32 0, .int .u32 0, .int .u16 0, .int .u16 0] := hc
        obtain rfl : _ = Value.slice (some ⟨w.heap.size, 0, none⟩) 16 16 := hs
        clear hm hk g8
        have C0 := B0.cell
        have C2 := B2.cell
        have S2 := B2.soft
        have C3 := B3.cell
        go_wp2_with (go_at_call 14; refine (get4_c _ 0 16 16 x0 x1 x2 x3 _ (B0.cell 0) (B0.cell 1) (B0.cell 2) (B0.cell 3) h0 h1 h2 h3 (by omega) (by omega) (by omega)).mono ?_; rintro e w1 ⟨rfl, hb1⟩; have D2 := (B2.later hb1).cell; have E2 := (B2.later hb1).soft; have L2 := (B2.later hb1).lt)
        exact ⟨⟨1, 1, _, by omega, rfl, by omega, rfl, rfl, bs (bt bel hb1) (by simp; omega) _, (B0.later hb1).other _ _ (by simp; omega), (B1.later hb1).other _ _ (by simp), (B2.later hb1).set 1 _, (B3.later hb1).other _ _ (by simp)⟩, by simp [intOf]⟩
      · obtain rfl : m = 1 := by omega
        obtain rfl : c = #[.bool tg, .int .u32 (le4 x0 x1 x2 x3), .int .u32 0, .int .u32 0, .int .u16 0, .int .u16 0] := hc
        obtain rfl : _ = Value.slice (some ⟨w.heap.size, 4, none⟩) 12 12 := hs
        clear hm hk g8
        have C0 := B0.cell
        have C2 := B2.cell
        have S2 := B2.soft
        have C3 := B3.cell
        go_wp2_with (go_at_call 14; refine (get4_c _ 4 12 12 x4 x5 x6 x7 _ (B0.cell 4) (B0.cell 5) (B0.cell 6) (B0.cell 7) h4 h5 h6 h7 (by omega) (by omega) (by omega)).mono ?_; rintro e w1 ⟨rfl, hb1⟩; have D2 := (B2.later hb1).cell; have E2 := (B2.later hb1).soft; have L2 := (B2.later hb1).lt)
        exact ⟨⟨2, 2, _, by omega, rfl, by omega, rfl, rfl, bs (bt bel hb1) (by simp; omega) _, (B0.later hb1).other _ _ (by simp; omega), (B1.later hb1).other _ _ (by simp), (B2.later hb1).set 2 _, (B3.later hb1).other _ _ (by simp)⟩, by simp [intOf]⟩
      · obtain rfl : m = 2 := by omega
        obtain rfl : c = #[.bool tg, .int .u32 (le4 x0 x1 x2 x3), .int .u32 (le4 x4 x5 x6 x7), .int .u32 0, .int .u16 0, .int .u16 0] := hc
        obtain rfl : _ = Value.slice (some ⟨w.heap.size, 8, none⟩) 8 8 := hs
        clear hm hk g8
        have C0 := B0.cell
        have C2 := B2.cell
        have S2 := B2.soft
        have C3 := B3.cell
        go_wp2_with (go_at_call 14; refine (get4_c _ 8 8 8 x8 x9 x10 x11 _ (B0.cell 8) (B0.cell 9) (B0.cell 10) (B0.cell 11) h8 h9 h10 h11 (by omega) (by omega) (by omega)).mono ?_; rintro e w1 ⟨rfl, hb1⟩; have D2 := (B2.later hb1).cell; have E2 := (B2.later hb1).soft; have L2 := (B2.later hb1).lt)
        exact ⟨⟨3, 3, _, by omega, rfl, by omega, rfl, rfl, bs (bt bel hb1) (by simp; omega) _, (B0.later hb1).other _ _ (by simp; omega), (B1.later hb1).other _ _ (by simp), (B2.later hb1).set 3 _, (B3.later hb1).other _ _ (by simp)⟩, by simp [intOf]⟩
end Go.Proofs.Ytjgnpinokjbhdaa
