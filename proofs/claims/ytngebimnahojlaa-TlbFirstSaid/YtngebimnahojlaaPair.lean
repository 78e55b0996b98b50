/- What the program and the document's answer come to: the same, function by function; and the calls whose answers the document fixes. Conditions: words are words. -/
import Derived.Test.YtngebimnahojlaaNum
import Derived.Test.YtngebimnahojlaaFix
namespace Go.Proofs.Ytngebimnahojlaa.Pair
open Go.RowKit Go.Proofs.Ytngebimnahojlaa.Con Go.Proofs.Ytngebimnahojlaa.Num
set_option linter.unusedVariables false
set_option linter.unusedSimpArgs false
/-- Both makes of a function answer v, and leave old memory. -/
def Both (f g : Nat) (args : Array Value) (v : Value) : Prop := Ans f args v ∧ Ans g args v
/-- One slot another one. -/
def put (f : Nat → Int) (k : Nat) (x : Int) : Nat → Int := fun i => if i = k then x else f i
/-- All words. -/
def Ws (h : Nat → Int) : Prop := ∀ i, Wd (h i)
theorem put_ws {h : Nat → Int} (hh : Ws h) (k : Nat) {x : Int} (hx : Wd x) : Ws (put h k x) := fun i => by
  unfold put
  split
  · exact hx
  · exact hh i
theorem nums16 (h l : Nat → Int) : Nums (cells16 h l) := fun v hv => by
  simp only [cells16, List.mem_cons, List.not_mem_nil, or_false] at hv
  rcases hv with rfl | rfl | rfl | rfl | rfl | rfl | rfl | rfl | rfl | rfl | rfl | rfl | rfl | rfl | rfl | rfl <;> exact ⟨_, rfl⟩
theorem upd_is (h l : Nat → Int) (k : Nat) (hk : k < 8) (a b : Int) : upd (cells16 h l) k a b = cells16 (put h k a) (put l k b) := by
  have hk' : k = 0 ∨ k = 1 ∨ k = 2 ∨ k = 3 ∨ k = 4 ∨ k = 5 ∨ k = 6 ∨ k = 7 := by omega
  rcases hk' with rfl | rfl | rfl | rfl | rfl | rfl | rfl | rfl <;> rfl
theorem cells_eq {h l h' l' : Nat → Int} (q : ∀ i, i < 8 → h i = h' i ∧ l i = l' i) : cells16 h l = cells16 h' l' := by
  unfold cells16
  rw [(q 0 (by omega)).1, (q 0 (by omega)).2, (q 1 (by omega)).1, (q 1 (by omega)).2, (q 2 (by omega)).1, (q 2 (by omega)).2, (q 3 (by omega)).1, (q 3 (by omega)).2, (q 4 (by omega)).1, (q 4 (by omega)).2, (q 5 (by omega)).1, (q 5 (by omega)).2, (q 6 (by omega)).1, (q 6 (by omega)).2, (q 7 (by omega)).1, (q 7 (by omega)).2]
theorem eqs (h l h' l' : Nat → Int) (hh : Ws h) (hl : Ws l) (hh' : Ws h') (hl' : Ws l') : ∃ r : Bool, (∀ w : World, (binOp .eql 26 (tlb h l) (tlb h' l')).run Try.prog w = .ok (.bool r) w) ∧ (r = true ↔ ∀ i, i < 8 → h i = h' i ∧ l i = l' i) := by
  by_cases c : ∀ i, i < 8 → h i = h' i ∧ l i = l' i
  · refine ⟨true, fun w => ?_, ⟨fun _ => c, fun _ => rfl⟩⟩
    obtain ⟨r, hr, _, hi⟩ := eq26 hh hl hh' hl' w
    rw [hr, hi.2 c]
  · refine ⟨false, fun w => ?_, ⟨fun x => (by cases x), fun x => absurd x c⟩⟩
    obtain ⟨r, hr, _, hi⟩ := eq26 hh hl hh' hl' w
    rw [hr]
    cases r
    · rfl
    · exact absurd (hi.1 rfl) c
/-- What stands in a slot behind a write. -/
def lowI (b : Int) : Int := b / 256 * 256 + b % 8
theorem low_wd {b : Int} (h : Wd b) : Wd (lowI b) := by unfold lowI; have := h.1; have := h.2; constructor <;> omega
theorem write_in {h l : Nat → Int} (hh : Ws h) (hl : Ws l) {a b : Int} (ha : Wd a) (hb : Wd b) (k : Nat) (hk : k < 8) : Both 7 8 #[tlb h l, .int .i64 k, .agg #[.int .u32 a, .int .u32 b]] (.tuple #[tlb (put h k a) (put l k (lowI b)), .int .i64 0]) := by
  have hu := upd_is h l k hk a (lowI b)
  constructor
  · intro w
    obtain ⟨r, hr, hi⟩ := eqs (put h k a) (put l k (lowI b)) h l (put_ws hh k ha) (put_ws hl k (low_wd hb)) hh hl
    have q := write_any (cells16 h l) rfl (nums16 h l) a b (lowI b) k hk r (low_is hb) (by rw [hu]; exact hr) (fun e => by rw [hu]; exact cells_eq (hi.1 e)) w
    rw [hu] at q
    exact q
  · intro w
    have q := rwrite_any (cells16 h l) rfl (nums16 h l) a b (lowI b) k hk hb.1 hb.2 rfl w
    rw [hu] at q
    exact q
theorem write_out (h l : Nat → Int) (a b k : Int) (hk : k < 0 ∨ 8 ≤ k) : Both 7 8 #[tlb h l, .int .i64 k, .agg #[.int .u32 a, .int .u32 b]] (.tuple #[.agg (List.toArray z16), .int .i64 70]) :=
  ⟨fun w => write_no (cells16 h l) a b k hk w, fun w => rwrite_no (cells16 h l) a b k hk w⟩
theorem find_pair {h l : Nat → Int} (hh : Ws h) (hl : Ws l) {a s : Int} (ha : Wd a) (hs : Wd s) : Both 13 14 #[tlb h l, .int .u32 a, .int .u32 s] (.int .i64 (firstN (fitR h l a s) 0 8)) := by
  refine ⟨fun w => ?_, fun w => rfind_raw h l a s hh hl ha hs w⟩
  have q := find_raw h l a s w
  rw [first_congr (fit_is hh hl ha hs)] at q
  exact q
/-- What becomes of an address. -/
theorem map_pair {h l : Nat → Int} (hh : Ws h) (hl : Ws l) {a s : Int} (ha : Wd a) (hs : Wd s) (wr : Bool) : ∃ x c : Int, Both 11 12 #[tlb h l, .int .u32 a, .int .u32 s, .bool wr] (.tuple #[.int .u32 x, .int .i64 c]) ∧
    ((firstN (fitR h l a s) 0 8 = -1 ∧ x = 0 ∧ c = 1) ∨ ∃ k : Nat, k < 8 ∧ firstN (fitR h l a s) 0 8 = (k : Int) ∧ fitR h l a s k = true ∧ x = mapX (l k / 2 % 2 == 0) (l k / 4 % 2 == 0) wr (l k / 256 * 256 + a % 256) ∧ c = mapC (l k / 2 % 2 == 0) (l k / 4 % 2 == 0) wr) := by
  obtain ⟨p1, p2⟩ := find_pair hh hl ha hs
  rcases first_cases (fitR h l a s) 8 0 with ⟨e, _⟩ | ⟨k, _, hk, e, f, _⟩
  · rw [e] at p1 p2
    exact ⟨0, 1, ⟨fun w => map_no h l a s wr p1 w, fun w => rmap_no h l a s wr p2 w⟩, .inl ⟨e, rfl, rfl⟩⟩
  · rw [e] at p1 p2
    have hk8 : k < 8 := by omega
    refine ⟨_, _, ⟨fun w => ?_, fun w => rmap_at h l a s wr k hk8 (hl k) ha p2 w⟩, .inr ⟨k, hk8, e, f, rfl, rfl⟩⟩
    have q := map_at h l a s wr k hk8 p1 w
    rw [and2_is (hl k), and4_is (hl k), at_is (hl k) ha] at q
    exact q
def z0 : Nat → Int := fun _ => 0
theorem z0_ws : Ws z0 := fun _ => ⟨by show (0 : Int) ≤ 0; omega, by show (0 : Int) < 4294967296; omega⟩
theorem wd (x : Int) (h : 0 ≤ x ∧ x < 4294967296) : Wd x := h
theorem fixed_c (w : World) : Calls Try.prog 10 #[] w fun e w' => e = .returned (.bool true) ∧ Below w.heap.size w w' := by
  have hT : Ws (put z0 0 1280) := put_ws z0_ws 0 (wd _ (by omega))
  have lT : Ws (put z0 0 4614) := put_ws z0_ws 0 (wd _ (by omega))
  have e1 : lowI 4614 = 4614 := by decide
  have e2 : lowI 255 = 7 := by decide
  have c1 := (write_in z0_ws z0_ws (a := 1280) (b := 4614) (wd _ (by omega)) (wd _ (by omega)) 0 (by omega)).1
  rw [e1] at c1
  have f1 := (find_pair hT lT (a := 1535) (s := 0) (wd _ (by omega)) (wd _ (by omega))).1
  have f2 := (find_pair hT lT (a := 1536) (s := 0) (wd _ (by omega)) (wd _ (by omega))).1
  rw [show firstN (fitR (put z0 0 1280) (put z0 0 4614) 1535 0) 0 8 = 0 by decide +kernel] at f1
  rw [show firstN (fitR (put z0 0 1280) (put z0 0 4614) 1536 0) 0 8 = -1 by decide +kernel] at f2
  obtain ⟨x, c, m1, hm⟩ := map_pair hT lT (a := 1332) (s := 0) (wd _ (by omega)) (wd _ (by omega)) false
  have g1 : x = 4660 ∧ c = 0 := by
    rw [show firstN (fitR (put z0 0 1280) (put z0 0 4614) 1332 0) 0 8 = 0 by decide +kernel] at hm
    rcases hm with ⟨h, _⟩ | ⟨k, hk, e, _, rfl, rfl⟩
    · exact absurd h (by decide)
    · obtain rfl : k = 0 := by omega
      decide +kernel
  obtain ⟨x', c', m2, hm2⟩ := map_pair hT lT (a := 1332) (s := 1) (wd _ (by omega)) (wd _ (by omega)) false
  have g2 : x' = 0 ∧ c' = 1 := by
    rw [show firstN (fitR (put z0 0 1280) (put z0 0 4614) 1332 1) 0 8 = -1 by decide +kernel] at hm2
    rcases hm2 with ⟨_, h1, h2⟩ | ⟨k, hk, e, _⟩
    · exact ⟨h1, h2⟩
    · exact absurd e (by omega)
  obtain ⟨rfl, rfl⟩ := g1
  obtain ⟨rfl, rfl⟩ := g2
  have x1 := (write_out (put z0 0 1280) (put z0 0 4614) 1280 4614 (-1) (by omega)).1
  have x2 := (write_in hT lT (a := 0) (b := 255) (wd _ (by omega)) (wd _ (by omega)) 1 (by omega)).1
  rw [e2] at x2
  have hq : ∀ w : World, (binOp .eql 24 (.agg #[.int .u32 1280, .int .u32 4614]) (.agg #[.int .u32 1280, .int .u32 4614])).run Try.prog w = .ok (.bool true) w := fun w => by
    obtain ⟨r, hr, _, hi⟩ := eq24 (x := 1280) (y := 4614) (x' := 1280) (y' := 4614) (by omega) (by omega) (by omega) (by omega) w
    rw [hr, hi.2 ⟨rfl, rfl⟩]
  exact fixed_raw (cells16 (put z0 0 1280) (put z0 0 4614)) (cells16 (put (put z0 0 1280) 1 0) (put (put z0 0 4614) 1 7)) z16 rfl z16_nums rfl rfl (nums16 _ _) (nums16 _ _) rfl
    c1 m1.1 m2.1 (fun w => read_at (put z0 0 1280) (put z0 0 4614) 0 (by omega) w) (fun w => read_no (put z0 0 1280) (put z0 0 4614) 8 (by omega) w) x1 x2 f1 f2 hq w
end Go.Proofs.Ytngebimnahojlaa.Pair
