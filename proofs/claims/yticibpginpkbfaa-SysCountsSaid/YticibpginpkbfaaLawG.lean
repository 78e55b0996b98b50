/- SysCounts: so many steps count so many, and the compare rings just if it is met on the way: the plain law, joined with the walk. Conditions: words are below 2^32. -/
import Derived.Test.YticibpginpkbfaaLawF
import Derived.Test.YticibpginpkbfaaPairB
namespace Go.Proofs.Yticibpginpkbfaa.LawG
open Go.RowKit Go.Proofs.Yticibpginpkbfaa.Con Go.Proofs.Yticibpginpkbfaa.Bits Go.Proofs.Yticibpginpkbfaa.Pair Go.Proofs.Yticibpginpkbfaa.LawF Go.Proofs.YticibpginpkbfaaW.PrintWords Go.Proofs.YticibpginpkbfaaW.PrintLast Go.Proofs.YticibpginpkbfaaW.PrintMore
set_option linter.unusedVariables false
set_option linter.unusedSimpArgs false
/-- The count behind k steps. -/
def gN (c3 k : Nat) : Nat := (c3 + k) % 4294967296
/-- The cause behind k steps. -/
def fN (c3 p z : Nat) : Nat → Nat
  | 0 => z
  | k + 1 => if gN c3 (k + 1) = p then maskN (fN c3 p z k) 0 31744 ||| 32768 else maskN (fN c3 p z k) 0 31744
theorem fN_lt {c3 p z : Nat} (hz : z < 4294967296) : ∀ k, fN c3 p z k < 4294967296
  | 0 => hz
  | k + 1 => by
    have h := fN_lt (c3 := c3) (p := p) hz k
    have h1 := maskN_lt (v := 0) h (show 31744 < 4294967296 by omega)
    unfold fN
    split
    · exact or_lt h1 (by omega)
    · exact h1
theorem bit15 {c3 a z : Nat} (ha : a ≤ 511) (hz : z < 4294967296) (hz15 : z.testBit 15 = false) : ∀ k, k ≤ 255 → (fN c3 (gN c3 a) z k).testBit 15 = decide (1 ≤ a ∧ a ≤ k)
  | 0, _ => by
    show z.testBit 15 = _
    rw [hz15, decide_eq_false (by omega)]
  | k + 1, hk => by
    have ih := bit15 (c3 := c3) ha hz hz15 k (by omega)
    have h := fN_lt (c3 := c3) (p := gN c3 a) hz k
    have ht : (maskN (fN c3 (gN c3 a) z k) 0 31744).testBit 15 = decide (1 ≤ a ∧ a ≤ k) := by
      rw [test_mask h (by omega), if_neg (by decide), ih]
    have he : gN c3 (k + 1) = gN c3 a ↔ k + 1 = a := by unfold gN; omega
    unfold fN
    by_cases c : k + 1 = a
    · rw [if_pos (he.2 c), Nat.testBit_or, show Nat.testBit 32768 15 = true by decide, Bool.or_true, decide_eq_true (by omega)]
    · rw [if_neg (fun x => c (he.1 x)), ht]
      rw [Bool.eq_iff_iff, decide_eq_true_eq, decide_eq_true_eq]
      omega
theorem lines0 {c3 p z : Nat} (hz : z < 4294967296) (k i : Nat) (h1 : 10 ≤ i) (h2 : i < 15) : (fN c3 p z (k + 1)).testBit i = false := by
  have h := fN_lt (c3 := c3) (p := p) hz k
  have ht : (maskN (fN c3 p z k) 0 31744).testBit i = false := by
    rw [test_mask h (by omega), mLine i (by omega), decide_eq_true (by omega), if_pos rfl, Nat.zero_testBit]
  unfold fN
  split
  · rw [Nat.testBit_or, ht, show (32768 : Nat) = 2 ^ 15 from rfl, Nat.testBit_two_pow, decide_eq_false (by omega)]; rfl
  · exact ht
theorem tick_step {c3 p z : Nat} (hz : z < 4294967296) (c0 c1 c2 c4 c6 c8 : Nat) (k : Nat) (w : World) :
    Calls Try.prog 20 #[regs c0 c1 c2 (gN c3 k : Nat) c4 p c6 (fN c3 p z k : Nat) c8, .int .u32 0] w fun e w' => e = .returned (regs c0 c1 c2 (gN c3 (k + 1) : Nat) c4 p c6 (fN c3 p z (k + 1) : Nat) c8) ∧ Below w.heap.size w w' := by
  have hf := fN_lt (c3 := c3) (p := p) hz k
  have e0 : ((gN c3 k : Int) + 1) % 4294967296 = (gN c3 (k + 1) : Int) := by unfold gN; omega
  have em := mask_bits hf (show (0 : Nat) < 4294967296 by omega) (show 31744 < 4294967296 by omega)
  have e1 : Go.bits .or .u32 (Go.bits .andNot .u32 (fN c3 p z k : Int) 31744) (Go.bits .and .u32 ((0 : Int) * 1024 % 4294967296) 31744) = ((maskN (fN c3 p z k) 0 31744 : Nat) : Int) := em
  have hm := maskN_lt (v := 0) hf (show 31744 < 4294967296 by omega)
  by_cases c : gN c3 (k + 1) = p
  · have e2 : fN c3 p z (k + 1) = maskN (fN c3 p z k) 0 31744 ||| 32768 := by
      show (if gN c3 (k + 1) = p then _ else _) = _
      rw [if_pos c]
    have e3 : Go.bits .or .u32 ((maskN (fN c3 p z k) 0 31744 : Nat) : Int) 32768 = ((maskN (fN c3 p z k) 0 31744 ||| 32768 : Nat) : Int) := bits_or hm (b := 32768) (by omega)
    rw [e2]
    exact tick_p _ _ _ _ _ _ _ _ _ _ _ _ _ true e0 (by rw [c]; exact beq_self_eq_true _) e1 (by rw [if_pos rfl]; exact e3) w
  · have e2 : fN c3 p z (k + 1) = maskN (fN c3 p z k) 0 31744 := by
      show (if gN c3 (k + 1) = p then _ else _) = _
      rw [if_neg c]
    rw [e2]
    exact tick_p _ _ _ _ _ _ _ _ _ _ _ _ _ false e0 (by rw [beq_eq_false_iff_ne]; exact fun he => c (Int.ofNat.inj he)) e1 (by rw [if_neg (by simp)]) w
theorem steps_is (steps : Int) : ∃ n : Nat, n ≤ 255 ∧ Go.bits .and .i64 steps 255 = (n : Int) := by
  refine ⟨(BitVec.ofInt 64 steps &&& BitVec.ofInt 64 255).toNat, ?_, ?_⟩
  · rw [BitVec.toNat_and]
    exact Nat.le_trans Nat.and_le_right (by decide)
  · have h : (BitVec.ofInt 64 steps &&& BitVec.ofInt 64 255).toNat ≤ 255 := by
      rw [BitVec.toNat_and]
      exact Nat.le_trans Nat.and_le_right (by decide)
    show IntKind.i64.wrap (((BitVec.ofInt 64 steps &&& BitVec.ofInt 64 255).toNat : Nat) : Int) = _
    generalize (BitVec.ofInt 64 steps &&& BitVec.ofInt 64 255).toNat = n at h ⊢
    rw [IntKind.wrap_i64]
    omega
theorem ring_is {x : Nat} (hx : x < 4294967296) : (Go.bits .and .u32 ((x : Int) / 32768) 1 == 1) = x.testBit 15 := by
  have e1 : ((x : Int) / 32768) = ((x / 32768 : Nat) : Int) := rfl
  have hl : x / 32768 < 4294967296 := Nat.lt_of_le_of_lt (Nat.div_le_self _ _) hx
  have e2 : Go.bits .and .u32 ((x / 32768 : Nat) : Int) 1 = ((x / 32768 &&& 1 : Nat) : Int) := bits_and hl (b := 1) (by omega)
  rw [e1, e2, Nat.and_one_is_mod, Nat.testBit_eq_decide_div_mod_eq, show (2 : Nat) ^ 15 = 32768 from rfl, Bool.eq_iff_iff, beq_iff_eq, decide_eq_true_eq]
  omega
theorem lines_is {x : Nat} (hx : x < 4294967296) (h : ∀ i, 10 ≤ i → i < 15 → x.testBit i = false) : (Go.bits .and .u32 ((x : Int) / 1024) 31 == 0) = true := by
  have e1 : ((x : Int) / 1024) = ((x / 1024 : Nat) : Int) := rfl
  have hl : x / 1024 < 4294967296 := Nat.lt_of_le_of_lt (Nat.div_le_self _ _) hx
  have e2 : Go.bits .and .u32 ((x / 1024 : Nat) : Int) 31 = ((x / 1024 &&& 31 : Nat) : Int) := bits_and hl (b := 31) (by omega)
  have e3 : x / 1024 &&& 31 = 0 := by
    apply Nat.eq_of_testBit_eq
    intro i
    rw [Nat.testBit_and, Nat.zero_testBit, show x / 1024 = x / 2 ^ 10 from rfl, Nat.testBit_div_two_pow]
    by_cases c : i < 5
    · rw [h _ (by omega) (by omega)]; rfl
    · have hp : 2 ^ 5 ≤ 2 ^ i := Nat.pow_le_pow_right (by omega) (by omega)
      rw [Nat.testBit_lt_two_pow (show 31 < 2 ^ i by omega), Bool.and_false]
  rw [e1, e2, e3]; rfl
theorem sysCounts (c0 c1 c2 c3 c4 c5 c6 c7 c8 ahead : Nat) (h : Words c0 c1 c2 c3 c4 c5 c6 c7 c8) (ha : ahead < 4294967296) (steps : Int) (w : World) :
    Calls Try.prog 7 #[regs c0 c1 c2 c3 c4 c5 c6 c7 c8, .int .i64 steps, .int .u32 ahead] w fun e w' => e = .returned (.bool true) ∧ Below w.heap.size w w' := by
  obtain ⟨h0, h1, h2, h3, h4, h5, h6, h7, h8⟩ := h
  obtain ⟨n, hn, en⟩ := steps_is steps
  have ea : Go.bits .and .u32 (ahead : Int) 511 = ((ahead &&& 511 : Nat) : Int) := bits_and ha (b := 511) (by omega)
  have hal : ahead &&& 511 ≤ 511 := Nat.and_le_right
  generalize ahead &&& 511 = a at *
  have ez : Go.bits .andNot .u32 (c7 : Int) 32768 = ((notN c7 32768 : Nat) : Int) := bits_andNot h7 (b := 32768) (by omega)
  have hz : notN c7 32768 < 4294967296 := notN_lt h7
  have hz15 : (notN c7 32768).testBit 15 = false := by
    have e3 : Nat.testBit 32768 15 = true := by decide
    rw [test_not (b := 32768) (by omega), e3]; simp
  generalize notN c7 32768 = z at *
  have hb := bit15 (c3 := c3) hal hz hz15 n hn
  have hfl := fN_lt (c3 := c3) (p := gN c3 a) hz n
  have hr := ring_is hfl
  rw [hb] at hr
  refine counts_any _ _ _ _ _ _ _ _ _ _ _ _ (gN c3 a : Nat) _ n (fun k => (gN c3 k : Int)) (fun k => (fN c3 (gN c3 a) z k : Int)) en hn ea (by unfold gN; omega) ez ?_ rfl (by omega) (by omega) ?_ ?_ ?_ ?_ (fun k _ W => tick_step hz c0 c1 c2 c4 c6 c8 k W) w
  · show ((gN c3 0 : Nat) : Int) = c3
    unfold gN; omega
  · rw [beq_iff_eq]
    show ((gN c3 n : Nat) : Int) = _
    unfold gN; omega
  · intro k1 k2
    rw [hr, decide_eq_true (by omega)]
  · intro k1
    rw [hr, decide_eq_false (by omega)]
  · intro hn0
    obtain ⟨m, rfl⟩ : ∃ m, n = m + 1 := ⟨n - 1, by omega⟩
    exact lines_is hfl (fun i a b => lines0 hz m i a b)
end Go.Proofs.Yticibpginpkbfaa.LawG
