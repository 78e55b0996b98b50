/- TlbBack: what is written is read, but for bits that mean nothing; other slots stay; an address keeps its place in its page: the plain law, joined with the walk. Conditions: words are words. -/
import Derived.Test.YtngebimnahojlaaLawB
namespace Go.Proofs.Ytngebimnahojlaa.LawC
open Go.RowKit Go.Proofs.Ytngebimnahojlaa.Con Go.Proofs.Ytngebimnahojlaa.Num Go.Proofs.Ytngebimnahojlaa.Pair Go.Proofs.Ytngebimnahojlaa.LawB
set_option linter.unusedVariables false
set_option linter.unusedSimpArgs false
theorem mEntry : ∀ i, i < 32 → Nat.testBit 4294967047 i = decide (i < 3 ∨ 8 ≤ i) := by decide +kernel
theorem mHigh : ∀ i, i < 32 → Nat.testBit 4294967040 i = decide (8 ≤ i) := by decide +kernel
theorem mMid : ∀ i, i < 32 → Nat.testBit 248 i = decide (3 ≤ i ∧ i < 8) := by decide +kernel
theorem low_nat {n : Nat} (hn : n < 4294967296) (i : Nat) : (256 * (n / 256) + n % 8).testBit i = if i < 8 then (decide (i < 3) && n.testBit i) else n.testBit i := by
  rw [show 256 * (n / 256) = 2 ^ 8 * (n / 2 ^ 8) from rfl, Nat.testBit_two_pow_mul_add _ (show n % 8 < 2 ^ 8 by omega), show n % 8 = n % 2 ^ 3 from rfl, Nat.testBit_mod_two_pow, Nat.testBit_div_two_pow]
  by_cases c : i < 8
  · rw [if_pos c, if_pos c]
  · rw [if_neg c, if_neg c, show i - 8 + 8 = i by omega]
theorem mask_low {b : Int} (h : Wd b) : Go.bits .and .u32 b 4294967047 = lowI b := by
  obtain ⟨n, rfl, hn⟩ := nat_of h
  have e : Go.bits .and .u32 (n : Int) 4294967047 = ((n &&& 4294967047 : Nat) : Int) := bits_and hn (b := 4294967047) (by omega)
  have q : n &&& 4294967047 = 256 * (n / 256) + n % 8 := by
    apply Nat.eq_of_testBit_eq
    intro i
    rw [Nat.testBit_and, low_nat hn]
    by_cases hi : i < 32
    · rw [mEntry i hi]
      by_cases c : i < 8
      · rw [if_pos c]
        by_cases c3 : i < 3
        · rw [decide_eq_true (.inl c3), decide_eq_true c3, Bool.and_true, Bool.true_and]
        · rw [decide_eq_false (by omega), decide_eq_false c3, Bool.and_false, Bool.false_and]
      · rw [if_neg c, decide_eq_true (by omega), Bool.and_true]
    · rw [if_neg (by omega), test_high hn hi, Bool.false_and]
  rw [e, q]
  unfold lowI
  omega
theorem mask_mid {b : Int} (h : Wd b) : Go.bits .and .u32 (lowI b) 248 = 0 := by
  obtain ⟨n, rfl, hn⟩ := nat_of h
  have el : lowI (n : Int) = ((256 * (n / 256) + n % 8 : Nat) : Int) := by unfold lowI; omega
  have hl : 256 * (n / 256) + n % 8 < 4294967296 := by omega
  have e : Go.bits .and .u32 ((256 * (n / 256) + n % 8 : Nat) : Int) 248 = (((256 * (n / 256) + n % 8) &&& 248 : Nat) : Int) := bits_and hl (b := 248) (by omega)
  have q : (256 * (n / 256) + n % 8) &&& 248 = 0 := by
    apply Nat.eq_of_testBit_eq
    intro i
    rw [Nat.testBit_and, low_nat hn, Nat.zero_testBit]
    by_cases hi : i < 32
    · rw [mMid i hi]
      by_cases c : i < 8
      · rw [if_pos c]
        by_cases c3 : i < 3
        · rw [decide_eq_false (show ¬ (3 ≤ i ∧ i < 8) by omega), Bool.and_false]
        · rw [decide_eq_false c3, Bool.false_and, Bool.false_and]
      · rw [decide_eq_false (show ¬ (3 ≤ i ∧ i < 8) by omega), Bool.and_false]
    · rw [test_high (show 248 < 4294967296 by omega) hi, Bool.and_false]
  rw [el, e, q]; rfl
theorem mask_high {b : Int} (h : Wd b) : Go.bits .and .u32 b 4294967040 = b / 256 * 256 := by
  obtain ⟨n, rfl, hn⟩ := nat_of h
  have e : Go.bits .and .u32 (n : Int) 4294967040 = ((n &&& 4294967040 : Nat) : Int) := bits_and hn (b := 4294967040) (by omega)
  have q : n &&& 4294967040 = 256 * (n / 256) := by
    apply Nat.eq_of_testBit_eq
    intro i
    rw [Nat.testBit_and, show 256 * (n / 256) = 2 ^ 8 * (n / 2 ^ 8) from rfl, Nat.testBit_two_pow_mul, Nat.testBit_div_two_pow]
    by_cases hi : i < 32
    · rw [mHigh i hi]
      by_cases c : 8 ≤ i
      · rw [decide_eq_true c, show i - 8 + 8 = i by omega, Bool.and_true, Bool.true_and]
      · rw [decide_eq_false c, Bool.and_false, Bool.false_and]
    · rw [test_high hn hi, decide_eq_true (show i ≥ 8 by omega), show i - 8 + 8 = i by omega, test_high hn hi]; rfl
  rw [e, q]
  omega
theorem put_same (f : Nat → Int) (k : Nat) (x : Int) : put f k x k = x := by unfold put; rw [if_pos rfl]
theorem put_other (f : Nat → Int) (k : Nat) (x : Int) {j : Nat} (h : j ≠ k) : put f k x j = f j := by unfold put; rw [if_neg h]
theorem tlbBack {h l : Nat → Int} (hh : Ws h) (hl : Ws l) {a b : Int} (ha : Wd a) (hb : Wd b) (slot : Int) (w : World) : Calls Try.prog 5 #[tlb h l, .int .i64 slot, .agg #[.int .u32 a, .int .u32 b]] w fun e w' => e = .returned (.bool true) ∧ Below w.heap.size w w' := by
  by_cases c : 0 ≤ slot ∧ slot < 8
  · obtain ⟨k, rfl⟩ : ∃ k : Nat, slot = (k : Int) := ⟨slot.toNat, by omega⟩
    have hk : k < 8 := by omega
    have hh' : Ws (put h k a) := put_ws hh k ha
    have hl' : Ws (put l k (lowI b)) := put_ws hl k (low_wd hb)
    have wad : Wd (a / 256 * 256 + b % 256) := by have := ha.1; have := ha.2; constructor <;> omega
    have wsp : Wd (a % 256) := by constructor <;> omega
    have fp := find_pair hh' hl' wad wsp
    have fitk : fitR (put h k a) (put l k (lowI b)) (a / 256 * 256 + b % 256) (a % 256) k = true := by
      unfold fitR
      rw [put_same]
      have q1 : (a / 256 == (a / 256 * 256 + b % 256) / 256) = true := by rw [beq_iff_eq]; omega
      have q2 : (a % 256 == a % 256 % 256) = true := by rw [beq_iff_eq]; omega
      rw [q1, q2, Bool.or_true]; rfl
    obtain ⟨x, c1, m1, hm1⟩ := map_pair hh' hl' wad wsp false
    obtain ⟨x2, c2, m2, hm2⟩ := map_pair hh' hl' wad wsp true
    have hr : ∃ m : Nat, m ≤ k ∧ firstN (fitR (put h k a) (put l k (lowI b)) (a / 256 * 256 + b % 256) (a % 256)) 0 8 = (m : Int) := by
      rcases first_cases (fitR (put h k a) (put l k (lowI b)) (a / 256 * 256 + b % 256) (a % 256)) 8 0 with ⟨_, q⟩ | ⟨m, _, hm, e, _, q⟩
      · rw [q k (by omega) (by omega)] at fitk; cases fitk
      · refine ⟨m, ?_, e⟩
        by_cases c : m ≤ k
        · exact c
        · rw [q k (by omega) (by omega)] at fitk; cases fitk
    obtain ⟨m, hmk, er⟩ := hr
    have hm8 : m < 8 := by omega
    have e1 : x = mapX (put l k (lowI b) m / 2 % 2 == 0) (put l k (lowI b) m / 4 % 2 == 0) false (put l k (lowI b) m / 256 * 256 + (a / 256 * 256 + b % 256) % 256) ∧ c1 = mapC (put l k (lowI b) m / 2 % 2 == 0) (put l k (lowI b) m / 4 % 2 == 0) false := by
      rcases hm1 with ⟨q, _⟩ | ⟨m', _, q, _, q1, q2⟩
      · rw [er] at q; exact absurd q (by omega)
      · obtain rfl : m = m' := by rw [er] at q; omega
        exact ⟨q1, q2⟩
    have e2 : x2 = mapX (put l k (lowI b) m / 2 % 2 == 0) (put l k (lowI b) m / 4 % 2 == 0) true (put l k (lowI b) m / 256 * 256 + (a / 256 * 256 + b % 256) % 256) ∧ c2 = mapC (put l k (lowI b) m / 2 % 2 == 0) (put l k (lowI b) m / 4 % 2 == 0) true := by
      rcases hm2 with ⟨q, _⟩ | ⟨m', _, q, _, q1, q2⟩
      · rw [er] at q; exact absurd q (by omega)
      · obtain rfl : m = m' := by rw [er] at q; omega
        exact ⟨q1, q2⟩
    have hlm := hl' m
    generalize put l k (lowI b) m = lm at e1 e2 hlm
    have hX : Wd (lm / 256 * 256 + (a / 256 * 256 + b % 256) % 256) := by have := hlm.1; have := hlm.2; constructor <;> omega
    have hX2 : (lm / 256 * 256 + (a / 256 * 256 + b % 256) % 256) % 256 = (a / 256 * 256 + b % 256) % 256 := by omega
    generalize lm / 256 * 256 + (a / 256 * 256 + b % 256) % 256 = X at e1 e2 hX hX2
    rw [er] at fp
    refine back_in h l (put h k a) (put l k (lowI b)) (cells16 h l) (cells16 (put h k a) (put l k (lowI b))) rfl rfl rfl rfl (nums16 _ _) a b (a / 256 * 256 + b % 256) (a % 256) m x c1 x2 c2 k hk (write_in hh hl ha hb k hk).1
      (fun j hj w => read_at _ _ j hj w) ?_ ?_ ?_ ?_ ?_ (and255_is ha) fp.1 m1.1 m2.1 (by omega) (by omega) ?_ ?_ w
    · intro j hj hjk w
      obtain ⟨r, _, hr, hi⟩ := eq24 (hh' j) (hl' j) (hh j) (hl j) w
      rw [hr, hi.2 ⟨put_other _ _ _ hjk, put_other _ _ _ hjk⟩]; rfl
    · rw [put_same]; simp
    · rw [put_same, mask_low (low_wd hb), mask_low hb]
      have : lowI (lowI b) = lowI b := by unfold lowI; omega
      rw [this]; simp
    · rw [put_same, mask_mid hb]; rfl
    · rw [mask_high ha, and255_is hb, or_is ha (by omega)]
    · obtain ⟨rfl, rfl⟩ := e1
      obtain ⟨rfl, rfl⟩ := e2
      cases (lm / 2 % 2 == 0) <;> cases (lm / 4 % 2 == 0) <;> simp [mapX, mapC]
    · intro hc
      obtain ⟨rfl, rfl⟩ := e1
      revert hc
      cases (lm / 2 % 2 == 0) <;> cases (lm / 4 % 2 == 0) <;> intro hc <;> simp [mapX, mapC] at hc ⊢ <;> rw [and255_is hX, and255_is wad, hX2]
  · have e26 : ∀ w : World, (binOp .eql 26 (tlb z0 z0) (tlb z0 z0)).run Try.prog w = .ok (.bool true) w := fun w => by
      obtain ⟨r, hr, _, hi⟩ := eq26 z0_ws z0_ws z0_ws z0_ws w
      rw [hr, hi.2 (fun i _ => ⟨rfl, rfl⟩)]
    exact back_out (cells16 h l) z16 rfl rfl z16_nums a b slot (write_out h l a b slot (by omega)).1 e26 w
end Go.Proofs.Ytngebimnahojlaa.LawC
