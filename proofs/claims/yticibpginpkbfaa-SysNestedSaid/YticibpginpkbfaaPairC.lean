/- What the program's Raise answers, and what the document's answer to the same: the same words. Conditions: each register and each word is below 2^32. -/
import Derived.Test.YticibpginpkbfaaPairA
namespace Go.Proofs.Yticibpginpkbfaa.Pair
open Go.RowKit Go.Proofs.Yticibpginpkbfaa.Fun Go.Proofs.Yticibpginpkbfaa.Bits Go.Proofs.Yticibpginpkbfaa.Con Go.Proofs.Yticibpginpkbfaa.Same Go.Proofs.YticibpginpkbfaaW.PrintWords Go.Proofs.YticibpginpkbfaaW.PrintLast Go.Proofs.YticibpginpkbfaaW.PrintMore
set_option linter.unusedVariables false
set_option linter.unusedSimpArgs false
theorem low7 (a : Nat) : a &&& 124 = (a % 128) &&& 124 := by
  apply Nat.eq_of_testBit_eq
  intro i
  rw [Nat.testBit_and, Nat.testBit_and, show a % 128 = a % 2 ^ 7 by rfl, Nat.testBit_mod_two_pow]
  by_cases c : i < 7
  · rw [decide_eq_true c, Bool.true_and]
  · have hp : 2 ^ 7 ≤ 2 ^ i := Nat.pow_le_pow_right (by omega) (by omega)
    rw [Nat.testBit_lt_two_pow (show 124 < 2 ^ i by omega), Bool.and_false, Bool.and_false]
theorem code_word {w y V : Nat} (hw : w < 4294967296) (h : V % 128 = 4 * y) (hy : y < 32) : mixN w (4 * y) 2 5 = maskN w V 124 := by
  rw [← mask_mix hw (by omega) mCode (by omega)]
  unfold maskN
  rw [low7 V, h]
theorem with31 {c7 : Nat} (h7 : c7 < 4294967296) (delay : Bool) : raise7 true delay (c7 : Int) = ((withN c7 31 delay : Nat) : Int) := by
  have e1 : Go.bits .andNot .u32 (c7 : Int) 2147483648 = ((notN c7 2147483648 : Nat) : Int) := bits_andNot h7 (b := 2147483648) (by omega)
  unfold raise7
  rw [if_pos rfl, e1]
  cases delay
  · rw [if_neg (by simp), with_false h7 (n := 31) (by omega)]
  · have e2 : Go.bits .or .u32 ((notN c7 2147483648 : Nat) : Int) 2147483648 = ((notN c7 2147483648 ||| 2147483648 : Nat) : Int) := bits_or (notN_lt h7) (b := 2147483648) (by omega)
    rw [if_pos rfl, e2]
    congr 1
    apply Nat.eq_of_testBit_eq
    intro i
    have e3 : Nat.testBit 2147483648 i = decide (31 = i) := by rw [show (2147483648 : Nat) = 2 ^ 31 from rfl, Nat.testBit_two_pow]
    rw [test_with, Nat.testBit_or, test_not (b := 2147483648) (by omega), e3]
    by_cases h : i = 31
    · subst h; simp
    · have h' : ¬ 31 = i := fun x => h x.symm
      rw [if_neg h, decide_eq_false h']
      by_cases hi : i < 32
      · simp [hi]
      · simp [hi, test_high h7 hi]
/-- The place of an exception in a delay slot. -/
def backN (pc : Nat) : Nat := (pc + 4294967292) % 4294967296
theorem backN_lt (pc : Nat) : backN pc < 4294967296 := Nat.mod_lt _ (by omega)
theorem back_is (pc : Nat) : ((pc : Int) - 4) % 4294967296 = (backN pc : Int) := by unfold backN; omega
theorem code_is (code : Int) : ∃ y V : Nat, y < 32 ∧ V < 4294967296 ∧ V % 128 = 4 * y ∧ (Int.tmod code 32 < 0 → wrap64 (Int.tmod code 32 + 32) = (y : Int)) ∧ (¬ Int.tmod code 32 < 0 → Int.tmod code 32 = (y : Int)) ∧ wrap64 (4 * (y : Int)) % 4294967296 = ((4 * y : Nat) : Int) ∧ code % 4294967296 * 4 % 4294967296 = (V : Int) := by
  refine ⟨(code % 32).toNat, (code % 4294967296 * 4 % 4294967296).toNat, by omega, by omega, by omega, ?_, ?_, by unfold wrap64; omega, by omega⟩
  · intro h
    have e := Int.tmod_eq_emod (a := code) (b := 32)
    unfold wrap64
    split at e <;> omega
  · intro h
    have e := Int.tmod_eq_emod (a := code) (b := 32)
    split at e <;> omega
theorem and2 (x : Nat) : (x &&& 2 = 0) ↔ x.testBit 1 = false := by
  constructor
  · intro h
    have h1 : (x &&& 2).testBit 1 = false := by rw [h]; decide
    rw [Nat.testBit_and, show Nat.testBit 2 1 = true by decide, Bool.and_true] at h1
    exact h1
  · intro h
    apply Nat.eq_of_testBit_eq
    intro i
    rw [Nat.testBit_and, Nat.zero_testBit, show (2 : Nat) = 2 ^ 1 from rfl, Nat.testBit_two_pow]
    by_cases a : i = 1
    · subst a; rw [h]; rfl
    · rw [decide_eq_false (by omega), Bool.and_false]
/-- Raise, with a place of its own. -/
theorem raise_word (c6 : Nat) (h6 : c6 < 4294967296) : Go.bits .or .u32 (c6 : Int) 2 = ((withN c6 1 true : Nat) : Int) ∧ (Go.bits .and .u32 (c6 : Int) 2 == 0) = !c6.testBit 1 := by
  have e1 : Go.bits .or .u32 (c6 : Int) 2 = ((c6 ||| 2 : Nat) : Int) := bits_or h6 (b := 2) (by omega)
  have e2 : Go.bits .and .u32 (c6 : Int) 2 = ((c6 &&& 2 : Nat) : Int) := bits_and h6 (b := 2) (by omega)
  rw [e1, e2, with_true h6 (n := 1) (by omega)]
  refine ⟨rfl, ?_⟩
  rw [Bool.eq_iff_iff, beq_iff_eq, Bool.not_eq_true', ← and2]
  omega
theorem raise_p (c0 c1 c2 c3 c4 c5 c6 c7 c8 code pc s V d e t m : Int) (ex refill delay : Bool) (h1 : Go.bits .or .u32 c6 2 = s) (h2 : (Go.bits .and .u32 c6 2 == 0) = ex) (h3 : code % 4294967296 * 4 % 4294967296 = V) (h4 : raise7 ex delay c7 = d) (h5 : raise8 ex delay c8 pc = e) (h6 : raiseTo ex refill = t) (h7 : Go.bits .or .u32 (Go.bits .andNot .u32 d 124) (Go.bits .and .u32 V 124) = m) (w : World) :
    Calls Try.prog 14 #[regs c0 c1 c2 c3 c4 c5 c6 c7 c8, .int .i64 code, .bool refill, .int .u32 pc, .bool delay] w fun en w' => en = .returned (.tuple #[regs c0 c1 c2 c3 c4 c5 s m e, .int .u32 t]) ∧ Below w.heap.size w w' := by
  have q := raise_raw c0 c1 c2 c3 c4 c5 c6 c7 c8 code pc refill delay w
  rw [h1, h2, h3, h4, h5, h6, h7] at q
  exact q.mono fun e w' q => ⟨q.1, below2 q.2⟩
theorem raise_pair (c0 c1 c2 c3 c4 c5 c6 c7 c8 pc : Nat) (code : Int) (refill delay : Bool) (h : Words c0 c1 c2 c3 c4 c5 c6 c7 c8) (hpc : pc < 4294967296) : ∃ s m e t : Nat, s < 4294967296 ∧ m < 4294967296 ∧ e < 4294967296 ∧ t < 4294967296 ∧
    Both 14 15 #[regs c0 c1 c2 c3 c4 c5 c6 c7 c8, .int .i64 code, .bool refill, .int .u32 pc, .bool delay] (.tuple #[regs c0 c1 c2 c3 c4 c5 s m e, .int .u32 t]) := by
  obtain ⟨h0, h1, h2, h3, h4, h5, h6, h7, h8⟩ := h
  obtain ⟨y, V, hy, hV, hVy, k1, k2, k3, k4⟩ := code_is code
  obtain ⟨r1, r2⟩ := raise_word c6 h6
  have C0 : BitIs (c6 : Int) 1 (c6.testBit 1) := bitIs h6 1 _ rfl (by omega)
  have C1 : WithIs (c6 : Int) 1 true ((withN c6 1 true : Nat) : Int) := withIs h6 1 _ rfl (by omega) true
  have hs : withN c6 1 true < 4294967296 := withN_lt h6 (by omega) true
  generalize withN c6 1 true = s at *
  have p0 : (0 : Int) ≤ (pc : Int) := by omega
  have p1 : (pc : Int) ≤ 4294967295 := by omega
  have hb := back_is pc
  have hbl := backN_lt pc
  generalize backN pc = bk at *
  cases hex : c6.testBit 1
  · rw [hex] at C0 r2
    have C2 : WithIs (c7 : Int) 31 delay ((withN c7 31 delay : Nat) : Int) := withIs h7 31 _ rfl (by omega) delay
    have e7 := with31 h7 delay
    have hd : withN c7 31 delay < 4294967296 := withN_lt h7 (by omega) delay
    generalize withN c7 31 delay = d at *
    have C3 : MixIs (d : Int) ((4 * y : Nat) : Int) 2 6 ((mixN d (4 * y) 2 5 : Nat) : Int) := mixIs hd (by omega) 2 6 5 _ _ rfl rfl (by omega) (by omega) rfl
    rw [code_word hd hVy hy] at C3
    have e8 := mask_bits hd hV (m := 124) (by omega)
    have hm : maskN d V 124 < 4294967296 := maskN_lt hd (by omega)
    generalize maskN d V 124 = m at *
    cases delay
    · cases refill
      · exact ⟨s, m, pc, 2147484032, hs, hm, hpc, by omega, fun w => raise_p _ _ _ _ _ _ _ _ _ _ _ _ _ _ _ _ _ _ _ _ r1 r2 k4 e7 (by rfl) (by rfl) e8 w, fun w => rraise_nff c0 c1 c2 c3 c4 c5 c6 c7 c8 code pc s d _ m false false C0 C1 C2 C3 _ rfl _ k1 k2 k3 p0 p1 w⟩
      · exact ⟨s, m, pc, 2147483648, hs, hm, hpc, by omega, fun w => raise_p _ _ _ _ _ _ _ _ _ _ _ _ _ _ _ _ _ _ _ _ r1 r2 k4 e7 (by rfl) (by rfl) e8 w, fun w => rraise_nft c0 c1 c2 c3 c4 c5 c6 c7 c8 code pc s d _ m true false C0 C1 C2 C3 _ rfl _ k1 k2 k3 p0 p1 w⟩
    · cases refill
      · refine ⟨s, m, bk, 2147484032, hs, hm, hbl, by omega, fun w => raise_p _ _ _ _ _ _ _ _ _ _ _ _ _ _ _ _ _ _ _ _ r1 r2 k4 e7 (by show ((pc : Int) - 4) % 4294967296 = _; exact hb) (by rfl) e8 w, fun w => ?_⟩
        have q := rraise_ntf c0 c1 c2 c3 c4 c5 c6 c7 c8 code pc s d _ m false true C0 C1 C2 C3 _ rfl _ k1 k2 k3 p0 p1 w
        rw [hb] at q
        exact q
      · refine ⟨s, m, bk, 2147483648, hs, hm, hbl, by omega, fun w => raise_p _ _ _ _ _ _ _ _ _ _ _ _ _ _ _ _ _ _ _ _ r1 r2 k4 e7 (by show ((pc : Int) - 4) % 4294967296 = _; exact hb) (by rfl) e8 w, fun w => ?_⟩
        have q := rraise_ntt c0 c1 c2 c3 c4 c5 c6 c7 c8 code pc s d _ m true true C0 C1 C2 C3 _ rfl _ k1 k2 k3 p0 p1 w
        rw [hb] at q
        exact q
  · rw [hex] at C0 r2
    have C3 : MixIs (c7 : Int) ((4 * y : Nat) : Int) 2 6 ((mixN c7 (4 * y) 2 5 : Nat) : Int) := mixIs h7 (by omega) 2 6 5 _ _ rfl rfl (by omega) (by omega) rfl
    rw [code_word h7 hVy hy] at C3
    have e8 := mask_bits h7 hV (m := 124) (by omega)
    have hm : maskN c7 V 124 < 4294967296 := maskN_lt h7 (by omega)
    generalize maskN c7 V 124 = m at *
    exact ⟨s, m, c8, 2147484032, hs, hm, h8, by omega, fun w => raise_p _ _ _ _ _ _ _ _ _ _ _ _ _ _ _ _ _ _ _ _ r1 r2 k4 (by rfl) (by rfl) (by rfl) e8 w, fun w => rraise_ex c0 c1 c2 c3 c4 c5 c6 c7 c8 code pc s 0 _ m refill delay C0 C1 C3 _ rfl _ k1 k2 k3 p0 p1 w⟩
end Go.Proofs.Yticibpginpkbfaa.Pair
