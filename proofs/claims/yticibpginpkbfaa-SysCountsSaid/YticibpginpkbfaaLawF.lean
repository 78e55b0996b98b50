/- The walk of SysCounts: whatever the registers and the numbers, the call answers true and leaves what lay in memory. Conditions: the premises of the plain law (LawG). -/
import Derived.Test.YticibpginpkbfaaPairA
import Derived.Test.YticibpginpkbfaaFrame
import Derived.Test.YticibpginpkbfaaFix
namespace Go.Proofs.Yticibpginpkbfaa.LawF
open Go.RowKit Go.Proofs.Yticibpginpkbfaa.Con Go.Proofs.Yticibpginpkbfaa.Pair Go.Proofs.Yticibpginpkbfaa.Frm Go.Proofs.Yticibpginpkbfaa.Fix Go.Proofs.YticibpginpkbfaaW.PrintWords Go.Proofs.YticibpginpkbfaaW.PrintLast Go.Proofs.YticibpginpkbfaaW.PrintMore
set_option linter.unusedVariables false
set_option linter.unusedSimpArgs false
set_option maxHeartbeats 8000000 in
set_option maxRecDepth 100000 in
theorem counts_any (c0 c1 c2 c3 c4 c5 c6 c7 c8 steps ahead a p f0 : Int) (n : Nat) (g f : Nat → Int)
    (hn : Go.bits .and .i64 steps 255 = (n : Int)) (hn2 : n ≤ 255) (ha : Go.bits .and .u32 ahead 511 = a) (hp : (c3 + a) % 4294967296 = p) (hf : Go.bits .andNot .u32 c7 32768 = f0) (hg0 : g 0 = c3) (hf0 : f 0 = f0) (a0 : 0 ≤ a) (a1 : a ≤ 511)
    (hB : (g n == (c3 + (n : Int)) % 4294967296) = true) (hM1 : 1 ≤ a → a ≤ (n : Int) → (Go.bits .and .u32 (f n / 32768) 1 == 1) = true) (hM2 : ¬ (1 ≤ a ∧ a ≤ (n : Int)) → (Go.bits .and .u32 (f n / 32768) 1 == 1) = false) (hL : n ≠ 0 → (Go.bits .and .u32 (f n / 1024) 31 == 0) = true)
    (ht : ∀ k, k < n → ∀ w : World, Calls Try.prog 20 #[regs c0 c1 c2 (g k) c4 p c6 (f k) c8, .int .u32 0] w fun e w' => e = .returned (regs c0 c1 c2 (g (k + 1)) c4 p c6 (f (k + 1)) c8) ∧ Below w.heap.size w w') (w : World) :
    Calls Try.prog 7 #[regs c0 c1 c2 c3 c4 c5 c6 c7 c8, .int .i64 steps, .int .u32 ahead] w fun e w' => e = .returned (.bool true) ∧ Below w.heap.size w w' := by
  have HT := Aside0.mk ht
  clear ht
  have G0 := Aside0.mk hg0
  have F0 := Aside0.mk hf0
  have HB := Aside0.mk hB
  have HM1 := Aside0.mk hM1
  have HM2 := Aside0.mk hM2
  have HL := Aside0.mk hL
  clear hg0 hf0 hB hM1 hM2 hL
  go_enter Try.func7, Try.ntmps7
  go_wp2_with fail
  clear hp hf hn
  have OW := Aside0.mk (((Owns.start w).new [.int .u32 c0, .int .u32 c1, .int .u32 c2, .int .u32 c3, .int .u32 c4, .int .u32 p, .int .u32 c6, .int .u32 f0, .int .u32 c8] 24).new [.int .u32 c0, .int .u32 c1, .int .u32 c2, .int .u32 c3, .int .u32 c4, .int .u32 p, .int .u32 c6, .int .u32 f0, .int .u32 c8] 24)
  have e0 : (w.alloc (.cells (List.toArray [.int .u32 c0, .int .u32 c1, .int .u32 c2, .int .u32 c3, .int .u32 c4, .int .u32 p, .int .u32 c6, .int .u32 f0, .int .u32 c8]) 24)).heap.size = w.heap.size + 1 := by simp
  rw [e0] at OW
  clear e0
  go_loopw [9] (fun i wr => ∃ k : Nat, k ≤ n ∧ i = .int .i64 k ∧ Aside0 (Owns w wr [(w.heap.size + 1, [.int .u32 c0, .int .u32 c1, .int .u32 c2, .int .u32 (g k), .int .u32 c4, .int .u32 p, .int .u32 c6, .int .u32 (f k), .int .u32 c8]), (w.heap.size, [.int .u32 c0, .int .u32 c1, .int .u32 c2, .int .u32 c3, .int .u32 c4, .int .u32 p, .int .u32 c6, .int .u32 f0, .int .u32 c8])])) (fun i _ => n - (intOf i).toNat)
  case atStart =>
    refine ⟨0, Nat.zero_le _, rfl, ?_⟩
    rw [G0.out, F0.out]
    exact OW
  case round =>
    clear OW
    obtain ⟨k, hk, rfl, OW⟩ := hrel
    by_cases hlt : k < n
    · obtain ⟨d0, d1, d2, d3, d4, d5, d6, d7, d8⟩ := OW.out.nine 0 (w.heap.size + 1) _ _ _ _ _ _ _ _ _ rfl
      have ld := OW.out.lt 0 (w.heap.size + 1) _ rfl
      go_wp2_with fail
      refine (HT.out k hlt _).mono ?_
      rintro e w1 ⟨rfl, hb⟩
      have O2 := Aside0.mk (OW.out.call hb)
      clear hb OW d0 d1 d2 d3 d4 d5 d6 d7 d8
      obtain ⟨d0, d1, d2, d3, d4, d5, d6, d7, d8⟩ := O2.out.nine 0 (w.heap.size + 1) _ _ _ _ _ _ _ _ _ rfl
      have fr := (O2.out.box 0 (w.heap.size + 1) _ rfl).free
      have fr0 := fr 0 (by simp)
      have fr1 := fr 1 (by simp)
      have fr2 := fr 2 (by simp)
      have fr3 := fr 3 (by simp)
      have fr4 := fr 4 (by simp)
      have fr5 := fr 5 (by simp)
      have fr6 := fr 6 (by simp)
      have fr7 := fr 7 (by simp)
      have fr8 := fr 8 (by simp)
      clear fr
      have ld2 := O2.out.lt 0 (w.heap.size + 1) _ rfl
      go_wp2_with fail
      refine ⟨⟨k + 1, by omega, by go_num, ⟨O2.out.set9 _ _ _ _ _ _ _ _ _ (by intro p hp; simp at hp; subst hp; simp)⟩⟩, by simp [intOf]; omega⟩
    · obtain rfl : k = n := by omega
      have k0 : (0 : Int) ≤ (k : Int) := by omega
      have b1 := HB.out
      by_cases hk0 : k = 0
      · have ez : ((k : Int) == 0) = true := by rw [hk0]; rfl
        have b2 := HM2.out (by omega)
        clear hk0
        by_cases h1 : 1 ≤ a
        · have h2 : ¬ a ≤ (k : Int) := by simp at ez; omega
          have t1 := trivial
          go_wp2_with fail
          refine (fixed_c _).mono ?_
          rintro e w1 ⟨rfl, hb⟩
          have O2 := Aside0.mk (OW.out.call hb)
          clear hb OW
          obtain ⟨d0, d1, d2, d3, d4, d5, d6, d7, d8⟩ := O2.out.nine 0 (w.heap.size + 1) _ _ _ _ _ _ _ _ _ rfl
          obtain ⟨g0, g1, g2, g3, g4, g5, g6, g7, g8⟩ := O2.out.nine 1 (w.heap.size) _ _ _ _ _ _ _ _ _ rfl
          have ld := O2.out.lt 0 (w.heap.size + 1) _ rfl
          go_wp2_with fail
          go_ret
          exact ⟨rfl, O2.out.below⟩
        · skip
          have t1 := trivial
          go_wp2_with fail
          refine (fixed_c _).mono ?_
          rintro e w1 ⟨rfl, hb⟩
          have O2 := Aside0.mk (OW.out.call hb)
          clear hb OW
          obtain ⟨d0, d1, d2, d3, d4, d5, d6, d7, d8⟩ := O2.out.nine 0 (w.heap.size + 1) _ _ _ _ _ _ _ _ _ rfl
          obtain ⟨g0, g1, g2, g3, g4, g5, g6, g7, g8⟩ := O2.out.nine 1 (w.heap.size) _ _ _ _ _ _ _ _ _ rfl
          have ld := O2.out.lt 0 (w.heap.size + 1) _ rfl
          go_wp2_with fail
          go_ret
          exact ⟨rfl, O2.out.below⟩
      · have ez : ((k : Int) == 0) = false := by simp [hk0]
        have b3 := HL.out hk0
        clear hk0
        by_cases h1 : 1 ≤ a
        · by_cases h2 : a ≤ (k : Int)
          · have b2 := HM1.out h1 h2
            have t1 := trivial
            go_wp2_with fail
            refine (fixed_c _).mono ?_
            rintro e w1 ⟨rfl, hb⟩
            have O2 := Aside0.mk (OW.out.call hb)
            clear hb OW
            obtain ⟨d0, d1, d2, d3, d4, d5, d6, d7, d8⟩ := O2.out.nine 0 (w.heap.size + 1) _ _ _ _ _ _ _ _ _ rfl
            obtain ⟨g0, g1, g2, g3, g4, g5, g6, g7, g8⟩ := O2.out.nine 1 (w.heap.size) _ _ _ _ _ _ _ _ _ rfl
            have ld := O2.out.lt 0 (w.heap.size + 1) _ rfl
            go_wp2_with fail
            go_ret
            exact ⟨rfl, O2.out.below⟩
          · have b2 := HM2.out (by omega)
            have t1 := trivial
            go_wp2_with fail
            refine (fixed_c _).mono ?_
            rintro e w1 ⟨rfl, hb⟩
            have O2 := Aside0.mk (OW.out.call hb)
            clear hb OW
            obtain ⟨d0, d1, d2, d3, d4, d5, d6, d7, d8⟩ := O2.out.nine 0 (w.heap.size + 1) _ _ _ _ _ _ _ _ _ rfl
            obtain ⟨g0, g1, g2, g3, g4, g5, g6, g7, g8⟩ := O2.out.nine 1 (w.heap.size) _ _ _ _ _ _ _ _ _ rfl
            have ld := O2.out.lt 0 (w.heap.size + 1) _ rfl
            go_wp2_with fail
            go_ret
            exact ⟨rfl, O2.out.below⟩
        · have b2 := HM2.out (by omega)
          have t1 := trivial
          go_wp2_with fail
          refine (fixed_c _).mono ?_
          rintro e w1 ⟨rfl, hb⟩
          have O2 := Aside0.mk (OW.out.call hb)
          clear hb OW
          obtain ⟨d0, d1, d2, d3, d4, d5, d6, d7, d8⟩ := O2.out.nine 0 (w.heap.size + 1) _ _ _ _ _ _ _ _ _ rfl
          obtain ⟨g0, g1, g2, g3, g4, g5, g6, g7, g8⟩ := O2.out.nine 1 (w.heap.size) _ _ _ _ _ _ _ _ _ rfl
          have ld := O2.out.lt 0 (w.heap.size + 1) _ rfl
          go_wp2_with fail
          go_ret
          exact ⟨rfl, O2.out.below⟩
end Go.Proofs.Yticibpginpkbfaa.LawF
