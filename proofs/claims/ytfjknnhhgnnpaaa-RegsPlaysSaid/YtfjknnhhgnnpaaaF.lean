/- A list of capabilities that came in, opened. No condition. -/
import Derived.Test.YtfjknnhhgnnpaaaD
import Derived.ProofKit
import Derived.OpenShut
import Derived.ChangeOld
import Derived.Deep.Slices
namespace Go.Proofs.Ytfjknnhhgnnpaaa
open Go.RowKit Go.ChangeShapes Go.WideShapes Go.Deep
set_option linter.unusedVariables false
set_option linter.unusedSimpArgs false

theorem own : ownKnob Try.prog.godebug = none := by kernel_rfl
theorem laidOut : laidOutB Try.prog = true := by kernel_rfl
theorem cells31 : Try.prog.cellsOf 31 = 6 := by kernel_rfl
theorem cells4 : Try.prog.cellsOf 4 = 1 := by kernel_rfl
theorem cells26 : Try.prog.cellsOf 26 = 1 := by kernel_rfl
theorem cells27 : Try.prog.cellsOf 27 = 1 := by kernel_rfl
instance : Inhabited Cp := ⟨Cp.int 0⟩

theorem open_cells {H : Type} {enc : TypeId × Value → H} {w : World} {base : Nat} {spare : Nat → Bool} {held : Bool} {fuel : Nat} {l : List Value} {x : DataW H × List MemPlace} (hsz : l.length = 6)
    (hf : DataW.trod enc Try.prog w base spare held fuel 31 l = some x) : ∃ c : Cp, l = c.cells := by
  obtain ⟨xs, n, _, _, _, hlen, hg⟩ := DataW.trod_struct Try.underlying31 hf
  have hx : ∀ i, i < 6 → ∃ x, xs[i]? = some x := fun i hi => ⟨xs[i]'(by rw [hlen]; exact hi), List.getElem?_eq_getElem _⟩
  obtain ⟨x0, e0⟩ := hx 0 (by omega)
  obtain ⟨x1, e1⟩ := hx 1 (by omega)
  obtain ⟨x2, e2⟩ := hx 2 (by omega)
  obtain ⟨x3, e3⟩ := hx 3 (by omega)
  obtain ⟨x4, e4⟩ := hx 4 (by omega)
  obtain ⟨x5, e5⟩ := hx 5 (by omega)
  have h0 := (hg 0 _ rfl).trans e0
  have h1 := (hg 1 _ rfl).trans e1
  have h2 := (hg 2 _ rfl).trans e2
  have h3 := (hg 3 _ rfl).trans e3
  have h4 := (hg 4 _ rfl).trans e4
  have h5 := (hg 5 _ rfl).trans e5
  obtain ⟨tg, c0, -⟩ := DataW.trod_bool Try.underlying4 h0
  obtain ⟨b, c1, -, w1⟩ := DataW.trod_int Try.underlying26 h1
  obtain ⟨t, c2, -, w2⟩ := DataW.trod_int Try.underlying26 h2
  obtain ⟨a, c3, -, w3⟩ := DataW.trod_int Try.underlying26 h3
  obtain ⟨p, c4, -, w4⟩ := DataW.trod_int Try.underlying27 h4
  obtain ⟨y, c5, -, w5⟩ := DataW.trod_int Try.underlying27 h5
  change List.take (Try.prog.cellsOf 4) (List.drop 0 l) = _ at c0
  change List.take (Try.prog.cellsOf 26) (List.drop 1 l) = _ at c1
  change List.take (Try.prog.cellsOf 26) (List.drop 2 l) = _ at c2
  change List.take (Try.prog.cellsOf 26) (List.drop 3 l) = _ at c3
  change List.take (Try.prog.cellsOf 27) (List.drop 4 l) = _ at c4
  change List.take (Try.prog.cellsOf 27) (List.drop 5 l) = _ at c5
  rw [cells4] at c0
  rw [cells26] at c1 c2 c3
  rw [cells27] at c4 c5
  match l, hsz with
  | [v0, v1, v2, v3, v4, v5], _ =>
    simp at c0 c1 c2 c3 c4 c5
    subst c0 c1 c2 c3 c4 c5
    exact ⟨⟨tg, b, t, a, p, y⟩, rfl⟩


/-- Capabilities that lie in a row of six cells each. -/
def Caps (w : World) (b off : Nat) (cp : Nat → Cp) (n : Nat) : Prop := ∀ j, j < n →
  w.cell? ⟨b, off + j * 6, none⟩ = some (.bool (cp j).tg) ∧ w.cell? ⟨b, off + j * 6 + 1, none⟩ = some (.int .u32 (cp j).b) ∧ w.cell? ⟨b, off + j * 6 + 2, none⟩ = some (.int .u32 (cp j).t) ∧
  w.cell? ⟨b, off + j * 6 + 3, none⟩ = some (.int .u32 (cp j).a) ∧ w.cell? ⟨b, off + j * 6 + 4, none⟩ = some (.int .u16 (cp j).p) ∧ w.cell? ⟨b, off + j * 6 + 5, none⟩ = some (.int .u16 (cp j).y)
theorem open_caps {H : Type} {enc : TypeId × Value → H} {w : World} {base : Nat} {held : Bool} {v : Value} {d : DataW H} {q : List MemPlace}
    (h : DataW.Trod enc Try.prog w base (fun _ => true) held 44 v d q) (hv : ∃ a len cap, v = .slice a len cap) :
    ∃ a len cap, v = .slice a len cap ∧ (len = 0 ∨ ∃ b off cp, a = some ⟨b, off, none⟩ ∧ len ≤ cap ∧ Caps w b off cp len) := by
  obtain ⟨a, len, cap, rfl⟩ := hv
  refine ⟨a, len, cap, rfl, ?_⟩
  obtain ⟨fuel, hf⟩ := h
  rcases open_slice Try.underlying44 hf with ⟨hcs, _⟩ | ⟨x, l, c, m, n, D, Pl, hcs, _, hl, hm, hmm, _, hx⟩
  · simp [Value.cells] at hcs
    exact .inl hcs.2.1
  · simp [Value.cells] at hcs
    obtain ⟨rfl, rfl, rfl⟩ := hcs
    by_cases h0 : len = 0
    · exact .inl h0
    · right
      have hmc : m = cap := by simpa using hmm
      have key : ∀ i, i < len → ∃ c : Cp, ∀ j, j < 6 → w.cell? ((x.add (i * 6)).add j) = c.cells[j]? := fun i hi => by
        obtain ⟨cs', h1, h2⟩ := hx i (by omega)
        rw [cells31] at h1
        obtain ⟨_, hlen, hc⟩ := World.cells?_some h1
        obtain ⟨c, rfl⟩ := open_cells hlen h2
        exact ⟨c, hc⟩
      obtain ⟨cp, hcp⟩ := choose_lt (α := Cp) key
      obtain ⟨b, off, spot⟩ := x
      have hc := hcp 0 (by omega) 0 (by omega)
      have hspot : spot = none := by
        have hc' : w.cell? ((Addr.mk b off spot).add (0 * 6) |>.add 0) = some (.bool (cp 0).tg) := hc
        have := World.cell?_spot hc'
        cases spot with
        | none => rfl
        | some s => simp [Addr.add] at this
      subst hspot
      refine ⟨b, off, cp, rfl, hl, fun j hj => ?_⟩
      have hadd : ∀ k, ((⟨b, off, none⟩ : Addr).add (j * 6)).add k = ⟨b, off + j * 6 + k, none⟩ := fun k => by rw [Addr.add_mid, Addr.add_mid]
      have hh := fun k hk => (hadd k) ▸ hcp j hj k hk
      exact ⟨hh 0 (by omega), hh 1 (by omega), hh 2 (by omega), hh 3 (by omega), hh 4 (by omega), hh 5 (by omega)⟩
end Go.Proofs.Ytfjknnhhgnnpaaa
