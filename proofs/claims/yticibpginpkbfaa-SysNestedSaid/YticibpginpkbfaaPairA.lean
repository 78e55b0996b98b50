/- What the program's Read, Write, Bad and Return answer, and what the document's answer to the same: the same words. Conditions: each register and each word is below 2^32. -/
import Derived.Test.YticibpginpkbfaaConB
import Derived.Test.YticibpginpkbfaaConC
import Derived.Test.YticibpginpkbfaaConD
import Derived.Test.YticibpginpkbfaaBitsB
import Derived.Test.YticibpginpkbfaaSame
import Derived.Test.YticibpginpkbfaaFunG
namespace Go.Proofs.Yticibpginpkbfaa.Pair
open Go.RowKit Go.Proofs.Yticibpginpkbfaa.Fun Go.Proofs.Yticibpginpkbfaa.Bits Go.Proofs.Yticibpginpkbfaa.Con Go.Proofs.Yticibpginpkbfaa.Same Go.Proofs.YticibpginpkbfaaW.PrintWords Go.Proofs.YticibpginpkbfaaW.PrintLast Go.Proofs.YticibpginpkbfaaW.PrintMore
set_option linter.unusedVariables false
set_option linter.unusedSimpArgs false

theorem mixIs {x v : Nat} (hx : x < 4294967296) (hv : v < 4294967296) (f t d : Nat) (fi ti : Int) (hf : fi = (f : Int)) (ht : ti = (t : Int)) (hft : f ≤ t) (h32 : t < 32) (hd : t + 1 - f = d) : MixIs (x : Int) (v : Int) fi ti ((mixN x v f d : Nat) : Int) := by
  subst hf ht hd
  exact fun W => mix_same 40 _ _ _ _ _ W (mix_f hx hv hft h32)
theorem withIs {x : Nat} (hx : x < 4294967296) (n : Nat) (ni : Int) (hn : ni = (n : Int)) (h32 : n < 32) (b : Bool) : WithIs (x : Int) ni b ((withN x n b : Nat) : Int) := by
  subst hn
  exact fun W => with_same _ _ _ _ W (with_f hx h32 b)
theorem bitIs {x : Nat} (hx : x < 4294967296) (n : Nat) (ni : Int) (hn : ni = (n : Int)) (h32 : n < 32) : BitIs (x : Int) ni (x.testBit n) := by
  subst hn
  exact fun W => bit_same _ _ _ W (bit_is hx h32)
theorem below2 {w w' : World} (h : ∃ o1 o2, w' = (w.alloc o1).alloc o2) : Below w.heap.size w w' := by
  obtain ⟨o1, o2, rfl⟩ := h
  exact ((Below.refl _ _).alloc (Nat.le_refl _) _).alloc (by simp) _
theorem below1 {w w' : World} (h : ∃ o1, w' = w.alloc o1) : Below w.heap.size w w' := by
  obtain ⟨o1, rfl⟩ := h
  exact (Below.refl _ _).alloc (Nat.le_refl _) _
theorem below2d {w w' : World} (h : ∃ o1 o2, w' = ((w.alloc o1).alloc o2).drew) : Below w.heap.size w w' := by
  obtain ⟨o1, o2, rfl⟩ := h
  exact below_drew (((Below.refl _ _).alloc (Nat.le_refl _) _).alloc (by simp) _)
/-- All nine registers are words. -/
def Words (c0 c1 c2 c3 c4 c5 c6 c7 c8 : Nat) : Prop := c0 < 4294967296 ∧ c1 < 4294967296 ∧ c2 < 4294967296 ∧ c3 < 4294967296 ∧ c4 < 4294967296 ∧ c5 < 4294967296 ∧ c6 < 4294967296 ∧ c7 < 4294967296 ∧ c8 < 4294967296
/-- The function's two makes answer the same. -/
def Both (f g : Nat) (args : Array Value) (v : Value) : Prop := (∀ w : World, Calls Try.prog f args w fun e w' => e = .returned v ∧ Below w.heap.size w w') ∧ (∀ w : World, Calls Try.prog g args w fun e w' => e = .returned v ∧ Below w.heap.size w w')

theorem reg_cases (r : Int) : r = 0 ∨ r = 2 ∨ r = 8 ∨ r = 9 ∨ r = 10 ∨ r = 11 ∨ r = 12 ∨ r = 13 ∨ r = 14 ∨ other r := by
  unfold other
  simp only [beq_eq_false_iff_ne, ne_eq]
  omega
theorem read_pair (c0 c1 c2 c3 c4 c5 c6 c7 c8 : Nat) (h : Words c0 c1 c2 c3 c4 c5 c6 c7 c8) (r : Int) : ∃ x : Nat, x < 4294967296 ∧ Both 10 11 #[regs c0 c1 c2 c3 c4 c5 c6 c7 c8, .int .i64 r] (.int .u32 x) := by
  obtain ⟨h0, h1, h2, h3, h4, h5, h6, h7, h8⟩ := h
  rcases reg_cases r with rfl | rfl | rfl | rfl | rfl | rfl | rfl | rfl | rfl | ho
  · exact ⟨c0, h0, fun w => (read_0 _ _ _ _ _ _ _ _ _ w).mono fun e w' q => ⟨q.1, below1 q.2⟩, fun w => zoetroperef08_Read.calls _ _ _ _ _ _ _ _ _ _ _ w (by unfold zoetroperef08_Read.f; rfl)⟩
  · exact ⟨c1, h1, fun w => (read_2 _ _ _ _ _ _ _ _ _ w).mono fun e w' q => ⟨q.1, below1 q.2⟩, fun w => zoetroperef08_Read.calls _ _ _ _ _ _ _ _ _ _ _ w (by unfold zoetroperef08_Read.f; rfl)⟩
  · exact ⟨c2, h2, fun w => (read_8 _ _ _ _ _ _ _ _ _ w).mono fun e w' q => ⟨q.1, below1 q.2⟩, fun w => zoetroperef08_Read.calls _ _ _ _ _ _ _ _ _ _ _ w (by unfold zoetroperef08_Read.f; rfl)⟩
  · exact ⟨c3, h3, fun w => (read_9 _ _ _ _ _ _ _ _ _ w).mono fun e w' q => ⟨q.1, below1 q.2⟩, fun w => zoetroperef08_Read.calls _ _ _ _ _ _ _ _ _ _ _ w (by unfold zoetroperef08_Read.f; rfl)⟩
  · exact ⟨c4, h4, fun w => (read_10 _ _ _ _ _ _ _ _ _ w).mono fun e w' q => ⟨q.1, below1 q.2⟩, fun w => zoetroperef08_Read.calls _ _ _ _ _ _ _ _ _ _ _ w (by unfold zoetroperef08_Read.f; rfl)⟩
  · exact ⟨c5, h5, fun w => (read_11 _ _ _ _ _ _ _ _ _ w).mono fun e w' q => ⟨q.1, below1 q.2⟩, fun w => zoetroperef08_Read.calls _ _ _ _ _ _ _ _ _ _ _ w (by unfold zoetroperef08_Read.f; rfl)⟩
  · exact ⟨c6, h6, fun w => (read_12 _ _ _ _ _ _ _ _ _ w).mono fun e w' q => ⟨q.1, below1 q.2⟩, fun w => zoetroperef08_Read.calls _ _ _ _ _ _ _ _ _ _ _ w (by unfold zoetroperef08_Read.f; rfl)⟩
  · exact ⟨c7, h7, fun w => (read_13 _ _ _ _ _ _ _ _ _ w).mono fun e w' q => ⟨q.1, below1 q.2⟩, fun w => zoetroperef08_Read.calls _ _ _ _ _ _ _ _ _ _ _ w (by unfold zoetroperef08_Read.f; rfl)⟩
  · exact ⟨c8, h8, fun w => (read_14 _ _ _ _ _ _ _ _ _ w).mono fun e w' q => ⟨q.1, below1 q.2⟩, fun w => zoetroperef08_Read.calls _ _ _ _ _ _ _ _ _ _ _ w (by unfold zoetroperef08_Read.f; rfl)⟩
  · refine ⟨0, by omega, fun w => (read_other _ _ _ _ _ _ _ _ _ _ ho w).mono fun e w' q => ⟨q.1, below1 q.2⟩, fun w => zoetroperef08_Read.calls _ _ _ _ _ _ _ _ _ _ _ w ?_⟩
    unfold other at ho
    simp only [beq_eq_false_iff_ne, ne_eq] at ho
    obtain ⟨g0, g1, g2, g3, g4, g5, g6, g7, g8⟩ := ho
    unfold zoetroperef08_Read.f
    simp [g0, g1, g2, g3, g4, g5, g6, g7, g8]
theorem write_pair (c0 c1 c2 c3 c4 c5 c6 c7 c8 v : Nat) (h : Words c0 c1 c2 c3 c4 c5 c6 c7 c8) (hv : v < 4294967296) (r : Int) : ∃ m0 m1 m2 m3 m4 m5 m6 m7 m8 : Nat, Words m0 m1 m2 m3 m4 m5 m6 m7 m8 ∧ Both 12 13 #[regs c0 c1 c2 c3 c4 c5 c6 c7 c8, .int .i64 r, .int .u32 v] (regs m0 m1 m2 m3 m4 m5 m6 m7 m8) := by
  have h' := h
  obtain ⟨h0, h1, h2, h3, h4, h5, h6, h7, h8⟩ := h
  rcases reg_cases r with rfl | rfl | rfl | rfl | rfl | rfl | rfl | rfl | rfl | ho
  · refine ⟨(maskN c0 v 7), c1, c2, c3, c4, c5, c6, c7, c8, ⟨(maskN_lt h0 (by omega)), h1, h2, h3, h4, h5, h6, h7, h8⟩, fun w => ?_, fun w => ?_⟩
    · have q := write_0 c0 c1 c2 c3 c4 c5 c6 c7 c8 v w
      have e1 : Go.bits .or .u32 (Go.bits .andNot .u32 (c0 : Int) 7) (Go.bits .and .u32 (v : Int) 7) = ((maskN c0 v 7 : Nat) : Int) := mask_bits h0 hv (m := 7) (by omega)
      rw [e1] at q
      exact q.mono fun e w' q => ⟨q.1, below2 q.2⟩
    · have q := rwrite_0 c0 c1 c2 c3 c4 c5 c6 c7 c8 v _ (mixIs h0 hv 0 2 3 _ _ rfl rfl (by omega) (by omega) rfl) w
      rw [(mask_mix h0 (by omega) m3 (by omega)).symm] at q
      exact q
  · refine ⟨c0, (maskN c1 v 4294967047), c2, c3, c4, c5, c6, c7, c8, ⟨h0, (maskN_lt h1 (by omega)), h2, h3, h4, h5, h6, h7, h8⟩, fun w => ?_, fun w => ?_⟩
    · have q := write_2 c0 c1 c2 c3 c4 c5 c6 c7 c8 v w
      have e1 : Go.bits .or .u32 (Go.bits .andNot .u32 (c1 : Int) 4294967047) (Go.bits .and .u32 (v : Int) 4294967047) = ((maskN c1 v 4294967047 : Nat) : Int) := mask_bits h1 hv (m := 4294967047) (by omega)
      rw [e1] at q
      exact q.mono fun e w' q => ⟨q.1, below2 q.2⟩
    · have q := rwrite_2 c0 c1 c2 c3 c4 c5 c6 c7 c8 v _ _ (mixIs h1 hv 0 2 3 _ _ rfl rfl (by omega) (by omega) rfl) (mixIs (mixN_lt h1 hv 0 3) hv 8 31 24 _ _ rfl rfl (by omega) (by omega) rfl) w
      rw [mask_entry h1 hv] at q
      exact q
  · refine ⟨c0, c1, c2, c3, c4, c5, c6, c7, c8, ⟨h0, h1, h2, h3, h4, h5, h6, h7, h8⟩, fun w => ?_, fun w => ?_⟩
    · have q := write_8 c0 c1 c2 c3 c4 c5 c6 c7 c8 v w
      have e1 : Go.bits .or .u32 (Go.bits .andNot .u32 (c2 : Int) 0) (Go.bits .and .u32 (v : Int) 0) = ((maskN c2 v 0 : Nat) : Int) := mask_bits h2 hv (m := 0) (by omega)
      rw [e1, mask_none h2] at q
      exact q.mono fun e w' q => ⟨q.1, below2 q.2⟩
    · exact rwrite_8 c0 c1 c2 c3 c4 c5 c6 c7 c8 v w
  · refine ⟨c0, c1, c2, (v), c4, c5, c6, c7, c8, ⟨h0, h1, h2, (hv), h4, h5, h6, h7, h8⟩, fun w => ?_, fun w => ?_⟩
    · have q := write_9 c0 c1 c2 c3 c4 c5 c6 c7 c8 v w
      have e1 : Go.bits .or .u32 (Go.bits .andNot .u32 (c3 : Int) 4294967295) (Go.bits .and .u32 (v : Int) 4294967295) = ((maskN c3 v 4294967295 : Nat) : Int) := mask_bits h3 hv (m := 4294967295) (by omega)
      rw [e1, mask_all h3 hv] at q
      exact q.mono fun e w' q => ⟨q.1, below2 q.2⟩
    · exact rwrite_9 c0 c1 c2 c3 c4 c5 c6 c7 c8 v w
  · refine ⟨c0, c1, c2, c3, (v), c5, c6, c7, c8, ⟨h0, h1, h2, h3, (hv), h5, h6, h7, h8⟩, fun w => ?_, fun w => ?_⟩
    · have q := write_10 c0 c1 c2 c3 c4 c5 c6 c7 c8 v w
      have e1 : Go.bits .or .u32 (Go.bits .andNot .u32 (c4 : Int) 4294967295) (Go.bits .and .u32 (v : Int) 4294967295) = ((maskN c4 v 4294967295 : Nat) : Int) := mask_bits h4 hv (m := 4294967295) (by omega)
      rw [e1, mask_all h4 hv] at q
      exact q.mono fun e w' q => ⟨q.1, below2 q.2⟩
    · exact rwrite_10 c0 c1 c2 c3 c4 c5 c6 c7 c8 v w
  · refine ⟨c0, c1, c2, c3, c4, (v), c6, (notN c7 32768), c8, ⟨h0, h1, h2, h3, h4, (hv), h6, (notN_lt h7), h8⟩, fun w => ?_, fun w => ?_⟩
    · have q := write_11 c0 c1 c2 c3 c4 c5 c6 c7 c8 v w
      have e1 : Go.bits .or .u32 (Go.bits .andNot .u32 (c5 : Int) 4294967295) (Go.bits .and .u32 (v : Int) 4294967295) = ((maskN c5 v 4294967295 : Nat) : Int) := mask_bits h5 hv (m := 4294967295) (by omega)
      rw [e1, mask_all h5 hv, show Go.bits .andNot .u32 (c7 : Int) 32768 = ((notN c7 32768 : Nat) : Int) from bits_andNot h7 (b := 32768) (by omega)] at q
      exact q.mono fun e w' q => ⟨q.1, below2 q.2⟩
    · have q := rwrite_11 c0 c1 c2 c3 c4 c5 c6 c7 c8 v _ (withIs h7 15 _ rfl (by omega) false) w
      rw [with_false h7 (n := 15) (by omega)] at q
      exact q
  · refine ⟨c0, c1, c2, c3, c4, c5, (maskN c6 v 65299), c7, c8, ⟨h0, h1, h2, h3, h4, h5, (maskN_lt h6 (by omega)), h7, h8⟩, fun w => ?_, fun w => ?_⟩
    · have q := write_12 c0 c1 c2 c3 c4 c5 c6 c7 c8 v w
      have e1 : Go.bits .or .u32 (Go.bits .andNot .u32 (c6 : Int) 65299) (Go.bits .and .u32 (v : Int) 65299) = ((maskN c6 v 65299 : Nat) : Int) := mask_bits h6 hv (m := 65299) (by omega)
      rw [e1] at q
      exact q.mono fun e w' q => ⟨q.1, below2 q.2⟩
    · have q := rwrite_12 c0 c1 c2 c3 c4 c5 c6 c7 c8 v _ _ _ (mixIs h6 hv 0 1 2 _ _ rfl rfl (by omega) (by omega) rfl) (mixIs (mixN_lt h6 hv 0 2) hv 4 4 1 _ _ rfl rfl (by omega) (by omega) rfl) (mixIs (mixN_lt (mixN_lt h6 hv 0 2) hv 4 1) hv 8 15 8 _ _ rfl rfl (by omega) (by omega) rfl) w
      rw [mask_status h6 hv] at q
      exact q
  · refine ⟨c0, c1, c2, c3, c4, c5, c6, (maskN c7 v 768), c8, ⟨h0, h1, h2, h3, h4, h5, h6, (maskN_lt h7 (by omega)), h8⟩, fun w => ?_, fun w => ?_⟩
    · have q := write_13 c0 c1 c2 c3 c4 c5 c6 c7 c8 v w
      have e1 : Go.bits .or .u32 (Go.bits .andNot .u32 (c7 : Int) 768) (Go.bits .and .u32 (v : Int) 768) = ((maskN c7 v 768 : Nat) : Int) := mask_bits h7 hv (m := 768) (by omega)
      rw [e1] at q
      exact q.mono fun e w' q => ⟨q.1, below2 q.2⟩
    · have q := rwrite_13 c0 c1 c2 c3 c4 c5 c6 c7 c8 v _ (mixIs h7 hv 8 9 2 _ _ rfl rfl (by omega) (by omega) rfl) w
      rw [(mask_mix h7 (by omega) mSoft (by omega)).symm] at q
      exact q
  · refine ⟨c0, c1, c2, c3, c4, c5, c6, c7, (v), ⟨h0, h1, h2, h3, h4, h5, h6, h7, (hv)⟩, fun w => ?_, fun w => ?_⟩
    · have q := write_14 c0 c1 c2 c3 c4 c5 c6 c7 c8 v w
      have e1 : Go.bits .or .u32 (Go.bits .andNot .u32 (c8 : Int) 4294967295) (Go.bits .and .u32 (v : Int) 4294967295) = ((maskN c8 v 4294967295 : Nat) : Int) := mask_bits h8 hv (m := 4294967295) (by omega)
      rw [e1, mask_all h8 hv] at q
      exact q.mono fun e w' q => ⟨q.1, below2 q.2⟩
    · exact rwrite_14 c0 c1 c2 c3 c4 c5 c6 c7 c8 v w
  · refine ⟨c0, c1, c2, c3, c4, c5, c6, c7, c8, h', fun w => (write_other _ _ _ _ _ _ _ _ _ _ _ ho w).mono fun e w' q => ⟨q.1, below2 q.2⟩, fun w => rwrite_other _ _ _ _ _ _ _ _ _ _ _ ?_ w⟩
    obtain ⟨g0, g2, g8, g9, g10, g11, g12, g13, g14⟩ := ho
    exact ⟨g0, g2, g9, g10, g11, g12, g13, g14⟩
theorem bad_pair (c0 c1 c2 c3 c4 c5 c6 c7 c8 a : Nat) (h : Words c0 c1 c2 c3 c4 c5 c6 c7 c8) (ha : a < 4294967296) (p : Bool) : ∃ m : Nat, m < 4294967296 ∧ Both 18 19 #[regs c0 c1 c2 c3 c4 c5 c6 c7 c8, .int .u32 a, .bool p] (regs c0 c1 a c3 m c5 c6 c7 c8) := by
  obtain ⟨h0, h1, h2, h3, h4, h5, h6, h7, h8⟩ := h
  cases p
  · refine ⟨c4, h4, fun w => ?_, fun w => rbad_f _ _ _ _ _ _ _ _ _ _ w⟩
    have q := bad_raw c0 c1 c2 c3 c4 c5 c6 c7 c8 a false w
    rw [if_neg (by simp)] at q
    exact q.mono fun e w' q => ⟨q.1, below2 q.2⟩
  · refine ⟨maskN c4 a 4294967040, maskN_lt h4 (by omega), fun w => ?_, fun w => ?_⟩
    · have q := bad_raw c0 c1 c2 c3 c4 c5 c6 c7 c8 a true w
      have e1 : Go.bits .or .u32 (Go.bits .andNot .u32 (c4 : Int) 4294967040) (Go.bits .and .u32 (a : Int) 4294967040) = ((maskN c4 a 4294967040 : Nat) : Int) := mask_bits h4 ha (m := 4294967040) (by omega)
      rw [if_pos rfl, e1] at q
      exact q.mono fun e w' q => ⟨q.1, below2 q.2⟩
    · have q := rbad_t c0 c1 c2 c3 c4 c5 c6 c7 c8 a _ (mixIs h4 ha 8 31 24 _ _ rfl rfl (by omega) (by omega) rfl) w
      rw [(mask_mix h4 (by omega) mPage (by omega)).symm] at q
      exact q
theorem return_pair (c0 c1 c2 c3 c4 c5 c6 c7 c8 : Nat) (h : Words c0 c1 c2 c3 c4 c5 c6 c7 c8) : ∃ m : Nat, m < 4294967296 ∧ Both 16 17 #[regs c0 c1 c2 c3 c4 c5 c6 c7 c8] (.tuple #[regs c0 c1 c2 c3 c4 c5 m c7 c8, .int .u32 c8]) := by
  obtain ⟨h0, h1, h2, h3, h4, h5, h6, h7, h8⟩ := h
  refine ⟨notN c6 2, notN_lt h6, fun w => ?_, fun w => ?_⟩
  · have q := return_raw c0 c1 c2 c3 c4 c5 c6 c7 c8 w
    have e1 : Go.bits .andNot .u32 (c6 : Int) 2 = ((notN c6 2 : Nat) : Int) := bits_andNot h6 (b := 2) (by omega)
    rw [e1] at q
    exact q.mono fun e w' q => ⟨q.1, below2d q.2⟩
  · have q := rreturn_c c0 c1 c2 c3 c4 c5 c6 c7 c8 _ (withIs h6 1 _ rfl (by omega) false) w
    rw [with_false h6 (n := 1) (by omega)] at q
    exact q
end Go.Proofs.Yticibpginpkbfaa.Pair
