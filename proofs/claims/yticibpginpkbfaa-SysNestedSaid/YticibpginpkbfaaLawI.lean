/- SysNested: exceptions within one another, and the return: the plain law, joined with the walk. Conditions: words are below 2^32. -/
import Derived.Test.YticibpginpkbfaaLawE
import Derived.Test.YticibpginpkbfaaLawH
namespace Go.Proofs.Yticibpginpkbfaa.LawI
open Go.RowKit Go.Proofs.Yticibpginpkbfaa.Con Go.Proofs.Yticibpginpkbfaa.Bits Go.Proofs.Yticibpginpkbfaa.Pair Go.Proofs.Yticibpginpkbfaa.LawD Go.Proofs.Yticibpginpkbfaa.LawE Go.Proofs.Yticibpginpkbfaa.LawH Go.Proofs.YticibpginpkbfaaW.PrintWords Go.Proofs.YticibpginpkbfaaW.PrintLast Go.Proofs.YticibpginpkbfaaW.PrintMore
set_option linter.unusedVariables false
set_option linter.unusedSimpArgs false
/-- The code's word. -/
def vN (code : Int) : Nat := (code % 4294967296 * 4 % 4294967296).toNat
theorem vN_is (code : Int) : code % 4294967296 * 4 % 4294967296 = (vN code : Int) ∧ vN code < 4294967296 := by unfold vN; omega
/-- Status, Cause, EPC behind k exceptions. -/
def sN (z : Nat) : Nat → Nat
  | 0 => z
  | _ + 1 => withN z 1 true
def eN (c8 : Nat) (dl : Nat → Bool) (pc : Nat → Nat) : Nat → Nat
  | 0 => c8
  | _ + 1 => if dl 0 = true then backN (pc 0) else pc 0
def mN (c7 : Nat) (cd : Nat → Int) (dl : Nat → Bool) : Nat → Nat
  | 0 => c7
  | 1 => maskN (withN c7 31 (dl 0)) (vN (cd 0)) 124
  | k + 2 => maskN (mN c7 cd dl (k + 1)) (vN (cd (k + 1))) 124
def tN (rf : Nat → Bool) : Nat → Int
  | 0 => raiseTo true (rf 0)
  | _ + 1 => 2147484032
theorem mN_lt {c7 : Nat} (h7 : c7 < 4294967296) (cd : Nat → Int) (dl : Nat → Bool) : ∀ k, mN c7 cd dl k < 4294967296
  | 0 => h7
  | 1 => maskN_lt (withN_lt h7 (by omega) _) (by omega)
  | k + 2 => maskN_lt (mN_lt h7 cd dl (k + 1)) (by omega)
theorem step (c0 c1 c2 c3 c4 c5 z c7 c8 : Nat) (hz : z < 4294967296) (hz1 : z.testBit 1 = false) (h7 : c7 < 4294967296) (cd : Nat → Int) (rf dl : Nat → Bool) (pc : Nat → Nat) (k : Nat) (w : World) :
    Calls Try.prog 14 #[regs c0 c1 c2 c3 c4 c5 (sN z k : Nat) (mN c7 cd dl k : Nat) (eN c8 dl pc k : Nat), .int .i64 (cd k), .bool (rf k), .int .u32 (pc k : Nat), .bool (dl k)] w fun e w' => e = .returned (.tuple #[regs c0 c1 c2 c3 c4 c5 (sN z (k + 1) : Nat) (mN c7 cd dl (k + 1) : Nat) (eN c8 dl pc (k + 1) : Nat), .int .u32 (tN rf k)]) ∧ Below w.heap.size w w' := by
  obtain ⟨k4, hV⟩ := vN_is (cd k)
  cases k with
  | zero =>
    obtain ⟨r1, r2⟩ := raise_word z hz
    rw [hz1] at r2
    have e7 := with31 h7 (dl 0)
    have e8 := mask_bits (withN_lt h7 (show 31 < 32 by omega) (dl 0)) hV (m := 124) (by omega)
    have e10 : raise8 true (dl 0) (c8 : Int) (pc 0 : Int) = ((eN c8 dl pc 1 : Nat) : Int) := by
      unfold raise8 eN
      rw [if_pos rfl]
      by_cases hd : dl 0 = true
      · rw [if_pos hd, if_pos hd]; exact back_is _
      · rw [if_neg hd, if_neg hd]
    exact raise_p _ _ _ _ _ _ _ _ _ _ _ _ _ _ _ _ _ _ _ _ r1 r2 k4 e7 e10 rfl e8 w
  | succ k =>
    have hs : withN z 1 true < 4294967296 := withN_lt hz (by omega) true
    have hs1 : (withN z 1 true).testBit 1 = true := by rw [test_with, if_pos rfl]
    have hss : withN (withN z 1 true) 1 true = withN z 1 true := by
      apply Nat.eq_of_testBit_eq
      intro i
      rw [test_with, test_with]
      split <;> rfl
    obtain ⟨q1, q2⟩ := raise_word _ hs
    rw [hss] at q1
    rw [hs1] at q2
    have e8 := mask_bits (mN_lt h7 cd dl (k + 1)) hV (m := 124) (by omega)
    exact raise_p _ _ _ _ _ _ _ _ _ _ _ _ _ _ _ _ _ _ _ _ q1 q2 k4 rfl rfl rfl e8 w
theorem sysNested (c0 c1 c2 c3 c4 c5 c6 c7 c8 : Nat) (h : Words c0 c1 c2 c3 c4 c5 c6 c7 c8) (A : Option Addr) (len cap : Nat) (cd : Nat → Int) (rf dl : Nat → Bool) (pc : Nat → Nat) (w : World) (hx : Excs w A len cd rf dl (fun i => (pc i : Int))) :
    Calls Try.prog 8 #[regs c0 c1 c2 c3 c4 c5 c6 c7 c8, .slice A len cap] w fun e w' => e = .returned (.bool true) ∧ Below w.heap.size w w' := by
  obtain ⟨h0, h1, h2, h3, h4, h5, h6, h7, h8⟩ := h
  have e3 : Nat.testBit 2 1 = true := by decide
  have hz1 : (notN c6 2).testBit 1 = false := by
    rw [test_not (b := 2) (by omega), e3]; simp
  have hz : Go.bits .andNot .u32 (c6 : Int) 2 = ((notN c6 2 : Nat) : Int) := bits_andNot h6 (b := 2) (by omega)
  have hzl : notN c6 2 < 4294967296 := notN_lt h6
  have hzz : notN (notN c6 2) 2 = notN c6 2 := not_twice (by omega)
  generalize notN c6 2 = z at *
  have hs := (raise_word z hzl).1
  have hsl : withN z 1 true < 4294967296 := withN_lt hzl (by omega) true
  have hsz : notN (withN z 1 true) 2 = z := by
    apply Nat.eq_of_testBit_eq
    intro i
    have e3 : Nat.testBit 2 i = decide (1 = i) := by rw [show (2 : Nat) = 2 ^ 1 from rfl, Nat.testBit_two_pow]
    rw [test_not (b := 2) (by omega), test_with, e3]
    by_cases c : i = 1
    · subst c; rw [hz1]; simp
    · have c' : ¬ 1 = i := fun x => c x.symm
      rw [if_neg c, decide_eq_false c']
      by_cases hi : i < 32
      · simp [hi]
      · simp [hi, test_high hzl hi]
  have hret : notN (sN z (min len 20)) 2 = z ∧ sN z (min len 20) < 4294967296 := by
    cases min len 20 with
    | zero => exact ⟨hzz, hzl⟩
    | succ k => exact ⟨hsz, hsl⟩
  refine nested_any _ _ _ _ _ _ _ _ _ _ _ A len cap (min len 20) cd rf dl (fun i => (pc i : Int)) (tN rf) (fun k => (sN z k : Int)) (fun k => (mN c7 cd dl k : Int)) (fun k => (eN c8 dl pc k : Int)) hz hs (by omega) (by omega) (by omega) ⟨rfl, rfl, rfl⟩ (fun k _ => rfl) ?_ ?_ (fun k _ W => step c0 c1 c2 c3 c4 c5 z c7 c8 hzl hz1 h7 cd rf dl pc k W) (fun W => ret_ans c0 c1 c2 c3 c4 c5 c6 (mN c7 cd dl (min len 20)) (eN c8 dl pc (min len 20)) _ hret.2 hret.1 W) w hx
  · intro _
    show ((eN c8 dl pc 1 : Nat) : Int) = _
    unfold eN
    by_cases hd : dl 0 = true
    · rw [if_pos hd, if_pos hd]; exact (back_is _).symm
    · rw [if_neg hd, if_neg hd]
  · intro k h1 _
    obtain ⟨j, rfl⟩ : ∃ j, k = j + 1 := ⟨k - 1, by omega⟩
    exact ⟨rfl, rfl⟩
end Go.Proofs.Yticibpginpkbfaa.LawI
