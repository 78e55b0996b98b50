/- SysBack: what is written twice is written once, and an exception within an exception keeps the first place: the plain law, joined with the walk. Conditions: words are below 2^32. -/
import Derived.Test.YticibpginpkbfaaLawD
import Derived.Test.YticibpginpkbfaaPairB
import Derived.Test.YticibpginpkbfaaPairC
namespace Go.Proofs.Yticibpginpkbfaa.LawE
open Go.RowKit Go.Proofs.Yticibpginpkbfaa.Con Go.Proofs.Yticibpginpkbfaa.Bits Go.Proofs.Yticibpginpkbfaa.Pair Go.Proofs.Yticibpginpkbfaa.LawD Go.Proofs.YticibpginpkbfaaW.PrintWords Go.Proofs.YticibpginpkbfaaW.PrintLast Go.Proofs.YticibpginpkbfaaW.PrintMore
set_option linter.unusedVariables false
set_option linter.unusedSimpArgs false
theorem mask_twice {w v m : Nat} (hw : w < 4294967296) (hm : m < 4294967296) : maskN (maskN w v m) v m = maskN w v m := by
  apply Nat.eq_of_testBit_eq
  intro i
  rw [test_mask (maskN_lt hw hm) hm, test_mask hw hm]
  split <;> rfl
theorem mask_self {w m : Nat} (hw : w < 4294967296) (hm : m < 4294967296) : maskN w w m = w := by
  apply Nat.eq_of_testBit_eq
  intro i
  rw [test_mask hw hm]
  split <;> rfl
theorem not_twice {w m : Nat} (hm : m < 4294967296) : notN (notN w m) m = notN w m := by
  apply Nat.eq_of_testBit_eq
  intro i
  rw [test_not hm, test_not hm]
  cases w.testBit i <;> cases decide (i < 32) <;> cases m.testBit i <;> rfl
theorem w_0 {c0 c1 c2 c3 c4 c5 c6 c7 c8 v : Nat} (h : Words c0 c1 c2 c3 c4 c5 c6 c7 c8) (hv : v < 4294967296) : Ans 12 #[regs c0 c1 c2 c3 c4 c5 c6 c7 c8, .int .i64 0, .int .u32 v] (regs (maskN c0 v 7 : Nat) c1 c2 c3 c4 c5 c6 c7 c8) := by
  obtain ⟨h0, h1, h2, h3, h4, h5, h6, h7, h8⟩ := h
  intro w
  have q := write_0 c0 c1 c2 c3 c4 c5 c6 c7 c8 v w
  have e1 : Go.bits .or .u32 (Go.bits .andNot .u32 (c0 : Int) 7) (Go.bits .and .u32 (v : Int) 7) = ((maskN c0 v 7 : Nat) : Int) := mask_bits h0 hv (m := 7) (by omega)
  rw [e1] at q
  exact q.mono fun e w' q => ⟨q.1, below2 q.2⟩
theorem w_2 {c0 c1 c2 c3 c4 c5 c6 c7 c8 v : Nat} (h : Words c0 c1 c2 c3 c4 c5 c6 c7 c8) (hv : v < 4294967296) : Ans 12 #[regs c0 c1 c2 c3 c4 c5 c6 c7 c8, .int .i64 2, .int .u32 v] (regs c0 (maskN c1 v 4294967047 : Nat) c2 c3 c4 c5 c6 c7 c8) := by
  obtain ⟨h0, h1, h2, h3, h4, h5, h6, h7, h8⟩ := h
  intro w
  have q := write_2 c0 c1 c2 c3 c4 c5 c6 c7 c8 v w
  have e1 : Go.bits .or .u32 (Go.bits .andNot .u32 (c1 : Int) 4294967047) (Go.bits .and .u32 (v : Int) 4294967047) = ((maskN c1 v 4294967047 : Nat) : Int) := mask_bits h1 hv (m := 4294967047) (by omega)
  rw [e1] at q
  exact q.mono fun e w' q => ⟨q.1, below2 q.2⟩
theorem w_8 {c0 c1 c2 c3 c4 c5 c6 c7 c8 v : Nat} (h : Words c0 c1 c2 c3 c4 c5 c6 c7 c8) (hv : v < 4294967296) : Ans 12 #[regs c0 c1 c2 c3 c4 c5 c6 c7 c8, .int .i64 8, .int .u32 v] (regs c0 c1 (maskN c2 v 0 : Nat) c3 c4 c5 c6 c7 c8) := by
  obtain ⟨h0, h1, h2, h3, h4, h5, h6, h7, h8⟩ := h
  intro w
  have q := write_8 c0 c1 c2 c3 c4 c5 c6 c7 c8 v w
  have e1 : Go.bits .or .u32 (Go.bits .andNot .u32 (c2 : Int) 0) (Go.bits .and .u32 (v : Int) 0) = ((maskN c2 v 0 : Nat) : Int) := mask_bits h2 hv (m := 0) (by omega)
  rw [e1] at q
  exact q.mono fun e w' q => ⟨q.1, below2 q.2⟩
theorem w_9 {c0 c1 c2 c3 c4 c5 c6 c7 c8 v : Nat} (h : Words c0 c1 c2 c3 c4 c5 c6 c7 c8) (hv : v < 4294967296) : Ans 12 #[regs c0 c1 c2 c3 c4 c5 c6 c7 c8, .int .i64 9, .int .u32 v] (regs c0 c1 c2 (maskN c3 v 4294967295 : Nat) c4 c5 c6 c7 c8) := by
  obtain ⟨h0, h1, h2, h3, h4, h5, h6, h7, h8⟩ := h
  intro w
  have q := write_9 c0 c1 c2 c3 c4 c5 c6 c7 c8 v w
  have e1 : Go.bits .or .u32 (Go.bits .andNot .u32 (c3 : Int) 4294967295) (Go.bits .and .u32 (v : Int) 4294967295) = ((maskN c3 v 4294967295 : Nat) : Int) := mask_bits h3 hv (m := 4294967295) (by omega)
  rw [e1] at q
  exact q.mono fun e w' q => ⟨q.1, below2 q.2⟩
theorem w_10 {c0 c1 c2 c3 c4 c5 c6 c7 c8 v : Nat} (h : Words c0 c1 c2 c3 c4 c5 c6 c7 c8) (hv : v < 4294967296) : Ans 12 #[regs c0 c1 c2 c3 c4 c5 c6 c7 c8, .int .i64 10, .int .u32 v] (regs c0 c1 c2 c3 (maskN c4 v 4294967295 : Nat) c5 c6 c7 c8) := by
  obtain ⟨h0, h1, h2, h3, h4, h5, h6, h7, h8⟩ := h
  intro w
  have q := write_10 c0 c1 c2 c3 c4 c5 c6 c7 c8 v w
  have e1 : Go.bits .or .u32 (Go.bits .andNot .u32 (c4 : Int) 4294967295) (Go.bits .and .u32 (v : Int) 4294967295) = ((maskN c4 v 4294967295 : Nat) : Int) := mask_bits h4 hv (m := 4294967295) (by omega)
  rw [e1] at q
  exact q.mono fun e w' q => ⟨q.1, below2 q.2⟩
theorem w_11 {c0 c1 c2 c3 c4 c5 c6 c7 c8 v : Nat} (h : Words c0 c1 c2 c3 c4 c5 c6 c7 c8) (hv : v < 4294967296) : Ans 12 #[regs c0 c1 c2 c3 c4 c5 c6 c7 c8, .int .i64 11, .int .u32 v] (regs c0 c1 c2 c3 c4 (maskN c5 v 4294967295 : Nat) c6 (notN c7 32768 : Nat) c8) := by
  obtain ⟨h0, h1, h2, h3, h4, h5, h6, h7, h8⟩ := h
  intro w
  have q := write_11 c0 c1 c2 c3 c4 c5 c6 c7 c8 v w
  have e1 : Go.bits .or .u32 (Go.bits .andNot .u32 (c5 : Int) 4294967295) (Go.bits .and .u32 (v : Int) 4294967295) = ((maskN c5 v 4294967295 : Nat) : Int) := mask_bits h5 hv (m := 4294967295) (by omega)
  rw [e1, show Go.bits .andNot .u32 (c7 : Int) 32768 = ((notN c7 32768 : Nat) : Int) from bits_andNot h7 (b := 32768) (by omega)] at q
  exact q.mono fun e w' q => ⟨q.1, below2 q.2⟩
theorem w_12 {c0 c1 c2 c3 c4 c5 c6 c7 c8 v : Nat} (h : Words c0 c1 c2 c3 c4 c5 c6 c7 c8) (hv : v < 4294967296) : Ans 12 #[regs c0 c1 c2 c3 c4 c5 c6 c7 c8, .int .i64 12, .int .u32 v] (regs c0 c1 c2 c3 c4 c5 (maskN c6 v 65299 : Nat) c7 c8) := by
  obtain ⟨h0, h1, h2, h3, h4, h5, h6, h7, h8⟩ := h
  intro w
  have q := write_12 c0 c1 c2 c3 c4 c5 c6 c7 c8 v w
  have e1 : Go.bits .or .u32 (Go.bits .andNot .u32 (c6 : Int) 65299) (Go.bits .and .u32 (v : Int) 65299) = ((maskN c6 v 65299 : Nat) : Int) := mask_bits h6 hv (m := 65299) (by omega)
  rw [e1] at q
  exact q.mono fun e w' q => ⟨q.1, below2 q.2⟩
theorem w_13 {c0 c1 c2 c3 c4 c5 c6 c7 c8 v : Nat} (h : Words c0 c1 c2 c3 c4 c5 c6 c7 c8) (hv : v < 4294967296) : Ans 12 #[regs c0 c1 c2 c3 c4 c5 c6 c7 c8, .int .i64 13, .int .u32 v] (regs c0 c1 c2 c3 c4 c5 c6 (maskN c7 v 768 : Nat) c8) := by
  obtain ⟨h0, h1, h2, h3, h4, h5, h6, h7, h8⟩ := h
  intro w
  have q := write_13 c0 c1 c2 c3 c4 c5 c6 c7 c8 v w
  have e1 : Go.bits .or .u32 (Go.bits .andNot .u32 (c7 : Int) 768) (Go.bits .and .u32 (v : Int) 768) = ((maskN c7 v 768 : Nat) : Int) := mask_bits h7 hv (m := 768) (by omega)
  rw [e1] at q
  exact q.mono fun e w' q => ⟨q.1, below2 q.2⟩
theorem w_14 {c0 c1 c2 c3 c4 c5 c6 c7 c8 v : Nat} (h : Words c0 c1 c2 c3 c4 c5 c6 c7 c8) (hv : v < 4294967296) : Ans 12 #[regs c0 c1 c2 c3 c4 c5 c6 c7 c8, .int .i64 14, .int .u32 v] (regs c0 c1 c2 c3 c4 c5 c6 c7 (maskN c8 v 4294967295 : Nat)) := by
  obtain ⟨h0, h1, h2, h3, h4, h5, h6, h7, h8⟩ := h
  intro w
  have q := write_14 c0 c1 c2 c3 c4 c5 c6 c7 c8 v w
  have e1 : Go.bits .or .u32 (Go.bits .andNot .u32 (c8 : Int) 4294967295) (Go.bits .and .u32 (v : Int) 4294967295) = ((maskN c8 v 4294967295 : Nat) : Int) := mask_bits h8 hv (m := 4294967295) (by omega)
  rw [e1] at q
  exact q.mono fun e w' q => ⟨q.1, below2 q.2⟩
theorem writes (c0 c1 c2 c3 c4 c5 c6 c7 c8 v : Nat) (h : Words c0 c1 c2 c3 c4 c5 c6 c7 c8) (hv : v < 4294967296) (reg : Int) : ∃ m0 m1 m2 m3 m4 m5 m6 m7 m8 x : Nat, Ans 12 #[regs c0 c1 c2 c3 c4 c5 c6 c7 c8, .int .i64 reg, .int .u32 v] (regs m0 m1 m2 m3 m4 m5 m6 m7 m8) ∧ Ans 12 #[regs m0 m1 m2 m3 m4 m5 m6 m7 m8, .int .i64 reg, .int .u32 v] (regs m0 m1 m2 m3 m4 m5 m6 m7 m8) ∧ Ans 10 #[regs m0 m1 m2 m3 m4 m5 m6 m7 m8, .int .i64 reg] (.int .u32 x) ∧ Ans 12 #[regs m0 m1 m2 m3 m4 m5 m6 m7 m8, .int .i64 reg, .int .u32 x] (regs m0 m1 m2 m3 m4 m5 m6 m7 m8) := by
  have h' := h
  obtain ⟨h0, h1, h2, h3, h4, h5, h6, h7, h8⟩ := h
  rcases reg_cases reg with rfl | rfl | rfl | rfl | rfl | rfl | rfl | rfl | rfl | ho
  · have hm : maskN c0 v 7 < 4294967296 := maskN_lt h0 (by omega)
    have hw : Words (maskN c0 v 7) (c1) (c2) (c3) (c4) (c5) (c6) (c7) (c8) := ⟨hm, h1, h2, h3, h4, h5, h6, h7, h8⟩
    refine ⟨maskN c0 v 7, c1, c2, c3, c4, c5, c6, c7, c8, maskN c0 v 7, w_0 h' hv, ?_, fun w => (read_0 _ _ _ _ _ _ _ _ _ w).mono fun e w' q => ⟨q.1, below1 q.2⟩, ?_⟩
    · have q := w_0 hw hv
      rw [mask_twice h0 (by omega)] at q
      exact q
    · have q := w_0 hw hm
      rw [mask_self hm (by omega)] at q
      exact q
  · have hm : maskN c1 v 4294967047 < 4294967296 := maskN_lt h1 (by omega)
    have hw : Words (c0) (maskN c1 v 4294967047) (c2) (c3) (c4) (c5) (c6) (c7) (c8) := ⟨h0, hm, h2, h3, h4, h5, h6, h7, h8⟩
    refine ⟨c0, maskN c1 v 4294967047, c2, c3, c4, c5, c6, c7, c8, maskN c1 v 4294967047, w_2 h' hv, ?_, fun w => (read_2 _ _ _ _ _ _ _ _ _ w).mono fun e w' q => ⟨q.1, below1 q.2⟩, ?_⟩
    · have q := w_2 hw hv
      rw [mask_twice h1 (by omega)] at q
      exact q
    · have q := w_2 hw hm
      rw [mask_self hm (by omega)] at q
      exact q
  · have hm : maskN c2 v 0 < 4294967296 := maskN_lt h2 (by omega)
    have hw : Words (c0) (c1) (maskN c2 v 0) (c3) (c4) (c5) (c6) (c7) (c8) := ⟨h0, h1, hm, h3, h4, h5, h6, h7, h8⟩
    refine ⟨c0, c1, maskN c2 v 0, c3, c4, c5, c6, c7, c8, maskN c2 v 0, w_8 h' hv, ?_, fun w => (read_8 _ _ _ _ _ _ _ _ _ w).mono fun e w' q => ⟨q.1, below1 q.2⟩, ?_⟩
    · have q := w_8 hw hv
      rw [mask_twice h2 (by omega)] at q
      exact q
    · have q := w_8 hw hm
      rw [mask_self hm (by omega)] at q
      exact q
  · have hm : maskN c3 v 4294967295 < 4294967296 := maskN_lt h3 (by omega)
    have hw : Words (c0) (c1) (c2) (maskN c3 v 4294967295) (c4) (c5) (c6) (c7) (c8) := ⟨h0, h1, h2, hm, h4, h5, h6, h7, h8⟩
    refine ⟨c0, c1, c2, maskN c3 v 4294967295, c4, c5, c6, c7, c8, maskN c3 v 4294967295, w_9 h' hv, ?_, fun w => (read_9 _ _ _ _ _ _ _ _ _ w).mono fun e w' q => ⟨q.1, below1 q.2⟩, ?_⟩
    · have q := w_9 hw hv
      rw [mask_twice h3 (by omega)] at q
      exact q
    · have q := w_9 hw hm
      rw [mask_self hm (by omega)] at q
      exact q
  · have hm : maskN c4 v 4294967295 < 4294967296 := maskN_lt h4 (by omega)
    have hw : Words (c0) (c1) (c2) (c3) (maskN c4 v 4294967295) (c5) (c6) (c7) (c8) := ⟨h0, h1, h2, h3, hm, h5, h6, h7, h8⟩
    refine ⟨c0, c1, c2, c3, maskN c4 v 4294967295, c5, c6, c7, c8, maskN c4 v 4294967295, w_10 h' hv, ?_, fun w => (read_10 _ _ _ _ _ _ _ _ _ w).mono fun e w' q => ⟨q.1, below1 q.2⟩, ?_⟩
    · have q := w_10 hw hv
      rw [mask_twice h4 (by omega)] at q
      exact q
    · have q := w_10 hw hm
      rw [mask_self hm (by omega)] at q
      exact q
  · have hm : maskN c5 v 4294967295 < 4294967296 := maskN_lt h5 (by omega)
    have hw : Words (c0) (c1) (c2) (c3) (c4) (maskN c5 v 4294967295) (c6) (notN c7 32768) (c8) := ⟨h0, h1, h2, h3, h4, hm, h6, notN_lt h7, h8⟩
    refine ⟨c0, c1, c2, c3, c4, maskN c5 v 4294967295, c6, notN c7 32768, c8, maskN c5 v 4294967295, w_11 h' hv, ?_, fun w => (read_11 _ _ _ _ _ _ _ _ _ w).mono fun e w' q => ⟨q.1, below1 q.2⟩, ?_⟩
    · have q := w_11 hw hv
      rw [mask_twice h5 (by omega), not_twice (by omega)] at q
      exact q
    · have q := w_11 hw hm
      rw [mask_self hm (by omega), not_twice (by omega)] at q
      exact q
  · have hm : maskN c6 v 65299 < 4294967296 := maskN_lt h6 (by omega)
    have hw : Words (c0) (c1) (c2) (c3) (c4) (c5) (maskN c6 v 65299) (c7) (c8) := ⟨h0, h1, h2, h3, h4, h5, hm, h7, h8⟩
    refine ⟨c0, c1, c2, c3, c4, c5, maskN c6 v 65299, c7, c8, maskN c6 v 65299, w_12 h' hv, ?_, fun w => (read_12 _ _ _ _ _ _ _ _ _ w).mono fun e w' q => ⟨q.1, below1 q.2⟩, ?_⟩
    · have q := w_12 hw hv
      rw [mask_twice h6 (by omega)] at q
      exact q
    · have q := w_12 hw hm
      rw [mask_self hm (by omega)] at q
      exact q
  · have hm : maskN c7 v 768 < 4294967296 := maskN_lt h7 (by omega)
    have hw : Words (c0) (c1) (c2) (c3) (c4) (c5) (c6) (maskN c7 v 768) (c8) := ⟨h0, h1, h2, h3, h4, h5, h6, hm, h8⟩
    refine ⟨c0, c1, c2, c3, c4, c5, c6, maskN c7 v 768, c8, maskN c7 v 768, w_13 h' hv, ?_, fun w => (read_13 _ _ _ _ _ _ _ _ _ w).mono fun e w' q => ⟨q.1, below1 q.2⟩, ?_⟩
    · have q := w_13 hw hv
      rw [mask_twice h7 (by omega)] at q
      exact q
    · have q := w_13 hw hm
      rw [mask_self hm (by omega)] at q
      exact q
  · have hm : maskN c8 v 4294967295 < 4294967296 := maskN_lt h8 (by omega)
    have hw : Words (c0) (c1) (c2) (c3) (c4) (c5) (c6) (c7) (maskN c8 v 4294967295) := ⟨h0, h1, h2, h3, h4, h5, h6, h7, hm⟩
    refine ⟨c0, c1, c2, c3, c4, c5, c6, c7, maskN c8 v 4294967295, maskN c8 v 4294967295, w_14 h' hv, ?_, fun w => (read_14 _ _ _ _ _ _ _ _ _ w).mono fun e w' q => ⟨q.1, below1 q.2⟩, ?_⟩
    · have q := w_14 hw hv
      rw [mask_twice h8 (by omega)] at q
      exact q
    · have q := w_14 hw hm
      rw [mask_self hm (by omega)] at q
      exact q
  · exact ⟨c0, c1, c2, c3, c4, c5, c6, c7, c8, 0, fun w => (write_other _ _ _ _ _ _ _ _ _ _ _ ho w).mono fun e w' q => ⟨q.1, below2 q.2⟩, fun w => (write_other _ _ _ _ _ _ _ _ _ _ _ ho w).mono fun e w' q => ⟨q.1, below2 q.2⟩, fun w => (read_other _ _ _ _ _ _ _ _ _ _ ho w).mono fun e w' q => ⟨q.1, below1 q.2⟩, fun w => (write_other _ _ _ _ _ _ _ _ _ _ _ ho w).mono fun e w' q => ⟨q.1, below2 q.2⟩⟩
theorem ret_ans (c0 c1 c2 c3 c4 c5 c6 c7 c8 s : Nat) {z : Nat} (hs : s < 4294967296) (hz : notN s 2 = z) : Ans 16 #[regs c0 c1 c2 c3 c4 c5 s c7 c8] (.tuple #[regs c0 c1 c2 c3 c4 c5 z c7 c8, .int .u32 c8]) := by
  intro w
  have q := return_raw c0 c1 c2 c3 c4 c5 s c7 c8 w
  have e1 : Go.bits .andNot .u32 (s : Int) 2 = ((notN s 2 : Nat) : Int) := bits_andNot hs (b := 2) (by omega)
  rw [e1, hz] at q
  exact q.mono fun e w' q => ⟨q.1, below2d q.2⟩
theorem pend_no (c0 c1 c2 c3 c4 c5 s c7 c8 : Nat) (hs : s < 4294967296) (h1 : s.testBit 1 = true) : Ans 22 #[regs c0 c1 c2 c3 c4 c5 s c7 c8] (.bool false) := by
  intro w
  have q := pend_raw c0 c1 c2 c3 c4 c5 s c7 c8 w
  have e1 : Go.bits .and .u32 (s : Int) 3 = ((s &&& 3 : Nat) : Int) := bits_and hs (b := 3) (by omega)
  have e2 : ¬ (((s &&& 3 : Nat) : Int) == 1) = true := by
    rw [beq_iff_eq]
    intro h
    have := (and3 s).1 (by omega)
    rw [h1] at this
    exact absurd this.2 (by simp)
  rw [e1, if_neg e2] at q
  exact q.mono fun e w' q => ⟨q.1, below1 q.2⟩
theorem user_no (c0 c1 c2 c3 c4 c5 s c7 c8 : Nat) (hs : s < 4294967296) (h1 : s.testBit 1 = true) : Ans 24 #[regs c0 c1 c2 c3 c4 c5 s c7 c8] (.bool false) := by
  intro w
  have q := user_raw c0 c1 c2 c3 c4 c5 s c7 c8 w
  have e1 : Go.bits .and .u32 (s : Int) 18 = ((s &&& 18 : Nat) : Int) := bits_and hs (b := 18) (by omega)
  have e2 : (((s &&& 18 : Nat) : Int) == 16) = false := by
    rw [beq_eq_false_iff_ne]
    intro h
    have := (and18 s).1 (by omega)
    rw [h1] at this
    exact absurd this.2 (by simp)
  rw [e1, e2] at q
  exact q.mono fun e w' q => ⟨q.1, below1 q.2⟩
/-- The first exception, with no other one about it, and another one within it. -/
theorem raises (c0 c1 c2 c3 c4 c5 z c7 c8 pc : Nat) (h : Words c0 c1 c2 c3 c4 c5 z c7 c8) (hpc : pc < 4294967296) (hz : z.testBit 1 = false) (code : Int) (refill delay nd : Bool) (pc2 : Int) : ∃ s am bm t : Nat, s < 4294967296 ∧ am < 4294967296 ∧ bm < 4294967296 ∧ s.testBit 1 = true ∧ notN s 2 = z ∧ ((am : Int) / 2147483648 == 1) = delay ∧
    Ans 14 #[regs c0 c1 c2 c3 c4 c5 z c7 c8, .int .i64 code, .bool refill, .int .u32 pc, .bool delay] (.tuple #[regs c0 c1 c2 c3 c4 c5 s am (if delay = true then backN pc else pc : Nat), .int .u32 t]) ∧
    ∀ e : Int, Ans 14 #[regs c0 c1 c2 c3 c4 c5 s am e, .int .i64 code, .bool true, .int .u32 pc2, .bool nd] (.tuple #[regs c0 c1 c2 c3 c4 c5 s bm e, .int .u32 2147484032]) := by
  obtain ⟨h0, h1, h2, h3, h4, h5, h6, h7, h8⟩ := h
  obtain ⟨y, V, hy, hV, hVy, k1, k2, k3, k4⟩ := code_is code
  obtain ⟨r1, r2⟩ := raise_word z h6
  have hs : withN z 1 true < 4294967296 := withN_lt h6 (by omega) true
  have hs1 : (withN z 1 true).testBit 1 = true := by rw [test_with, if_pos rfl]
  have hss : withN (withN z 1 true) 1 true = withN z 1 true := by
    apply Nat.eq_of_testBit_eq
    intro i
    rw [test_with, test_with]
    split <;> rfl
  have hsz : notN (withN z 1 true) 2 = z := by
    apply Nat.eq_of_testBit_eq
    intro i
    have e3 : Nat.testBit 2 i = decide (1 = i) := by rw [show (2 : Nat) = 2 ^ 1 from rfl, Nat.testBit_two_pow]
    rw [test_not (b := 2) (by omega), test_with, e3]
    by_cases c : i = 1
    · subst c; rw [hz]; simp
    · have c' : ¬ 1 = i := fun x => c x.symm
      rw [if_neg c, decide_eq_false c']
      by_cases hi : i < 32
      · simp [hi]
      · simp [hi, test_high h6 hi]
  obtain ⟨q1, q2⟩ := raise_word _ hs
  rw [hss] at q1
  rw [hs1] at q2
  rw [hz] at r2
  generalize withN z 1 true = s at *
  have e7 := with31 h7 delay
  have hd : withN c7 31 delay < 4294967296 := withN_lt h7 (by omega) delay
  have hd31 : (withN c7 31 delay).testBit 31 = delay := by rw [test_with, if_pos rfl]
  generalize withN c7 31 delay = d at *
  have e8 := mask_bits hd hV (m := 124) (by omega)
  have hm : maskN d V 124 < 4294967296 := maskN_lt hd (by omega)
  have hm31 : (maskN d V 124).testBit 31 = delay := by rw [test_mask hd (by omega), if_neg (by decide), hd31]
  generalize maskN d V 124 = am at *
  have e9 := mask_bits hm hV (m := 124) (by omega)
  have hbm : maskN am V 124 < 4294967296 := maskN_lt hm (by omega)
  generalize maskN am V 124 = bm at *
  have hdel : ((am : Int) / 2147483648 == 1) = delay := by
    rw [Nat.testBit_eq_decide_div_mod_eq, show (2 : Nat) ^ 31 = 2147483648 from rfl] at hm31
    rw [← hm31, Bool.eq_iff_iff, beq_iff_eq, decide_eq_true_eq]
    omega
  have e10 : raise8 true delay (c8 : Int) (pc : Int) = ((if delay = true then backN pc else pc : Nat) : Int) := by
    unfold raise8
    rw [if_pos rfl]
    cases delay
    · rfl
    · rw [if_pos rfl, if_pos rfl]; exact back_is pc
  refine ⟨s, am, bm, if refill = true then 2147483648 else 2147484032, hs, hm, hbm, hs1, hsz, hdel, fun w => ?_, fun e w => ?_⟩
  · refine raise_p _ _ _ _ _ _ _ _ _ _ _ _ _ _ _ _ _ _ _ _ r1 r2 k4 e7 e10 ?_ e8 w
    cases refill <;> rfl
  · exact raise_p _ _ _ _ _ _ _ _ _ _ _ _ _ _ _ _ _ _ _ _ q1 q2 k4 (by rfl) (by rfl) (by rfl) e9 w
theorem sysBack (c0 c1 c2 c3 c4 c5 c6 c7 c8 pc : Nat) (h : Words c0 c1 c2 c3 c4 c5 c6 c7 c8) (hpc : pc < 4294967296) (reg code : Int) (refill delay : Bool) (w : World) :
    Calls Try.prog 6 #[regs c0 c1 c2 c3 c4 c5 c6 c7 c8, .int .i64 reg, .agg #[.int .i64 code, .bool refill, .bool delay, .int .u32 pc]] w fun e w' => e = .returned (.bool true) ∧ Below w.heap.size w w' := by
  obtain ⟨m0, m1, m2, m3, m4, m5, m6, m7, m8, x, a1, a2, a3, a4⟩ := writes c0 c1 c2 c3 c4 c5 c6 c7 c8 pc h hpc reg
  obtain ⟨h0, h1, h2, h3, h4, h5, h6, h7, h8⟩ := h
  have hzz : (notN c6 2).testBit 1 = false := by
    have e3 : Nat.testBit 2 1 = true := by decide
    rw [test_not (b := 2) (by omega), e3]; simp
  have hz : Go.bits .andNot .u32 (c6 : Int) 2 = ((notN c6 2 : Nat) : Int) := bits_andNot h6 (b := 2) (by omega)
  have hzl : notN c6 2 < 4294967296 := notN_lt h6
  generalize notN c6 2 = z at *
  obtain ⟨s, am, bm, t, hs, ham, hbm, hs1, hsz, hdel, b1, b2⟩ := raises c0 c1 c2 c3 c4 c5 z c7 c8 pc ⟨h0, h1, h2, h3, h4, h5, hzl, h7, h8⟩ hpc hzz code refill delay (!delay) 4096
  have hbk := back_is pc
  cases delay
  · rw [if_neg (by simp)] at b1
    exact back_false (t := 0) _ _ _ _ _ _ _ _ _ _ _ _ _ _ _ _ _ _ _ _ _ _ _ _ _ _ _ _ _ a1 a2 a3 a4 b1 (b2 pc) (ret_ans c0 c1 c2 c3 c4 c5 c6 bm pc s hs hsz) (pend_no c0 c1 c2 c3 c4 c5 s am pc hs hs1) (user_no c0 c1 c2 c3 c4 c5 s am pc hs hs1) hz hdel hbk w
  · rw [if_pos rfl] at b1
    exact back_true (t := 0) _ _ _ _ _ _ _ _ _ _ _ _ _ _ _ _ _ _ _ _ _ _ _ _ _ _ _ _ _ a1 a2 a3 a4 b1 (b2 (backN pc)) (ret_ans c0 c1 c2 c3 c4 c5 c6 bm (backN pc) s hs hsz) (pend_no c0 c1 c2 c3 c4 c5 s am (backN pc) hs hs1) (user_no c0 c1 c2 c3 c4 c5 s am (backN pc) hs hs1) hz hdel hbk w

end Go.Proofs.Yticibpginpkbfaa.LawE
