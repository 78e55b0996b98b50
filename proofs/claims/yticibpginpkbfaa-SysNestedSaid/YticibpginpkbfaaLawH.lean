/- The walk of SysNested: whatever the registers and the exceptions, the call answers true and leaves what lay in memory. Conditions: the premises of the plain law (LawI). -/
import Derived.Test.YticibpginpkbfaaPairC
import Derived.Test.YticibpginpkbfaaFrame
import Derived.Test.YticibpginpkbfaaFix
namespace Go.Proofs.Yticibpginpkbfaa.LawH
open Go.RowKit Go.Proofs.Yticibpginpkbfaa.Con Go.Proofs.Yticibpginpkbfaa.Pair Go.Proofs.Yticibpginpkbfaa.Frm Go.Proofs.Yticibpginpkbfaa.Fix Go.Proofs.YticibpginpkbfaaW.PrintWords Go.Proofs.YticibpginpkbfaaW.PrintLast Go.Proofs.YticibpginpkbfaaW.PrintMore
set_option linter.unusedVariables false
set_option linter.unusedSimpArgs false
/-- The exceptions of a slice: their cells. -/
def Excs (w : World) (A : Option Addr) (len : Nat) (cd : Nat → Int) (rf dl : Nat → Bool) (pc : Nat → Int) : Prop :=
  len ≤ 9223372036854775807 ∧ (0 < len → ∃ b off, A = some ⟨b, off, none⟩ ∧ b < w.heap.size ∧ ∀ i, i < len → w.cell? ⟨b, off + i * 4, none⟩ = some (.int .i64 (cd i)) ∧ w.cell? ⟨b, off + i * 4 + 1, none⟩ = some (.bool (rf i)) ∧ w.cell? ⟨b, off + i * 4 + 2, none⟩ = some (.bool (dl i)) ∧ w.cell? ⟨b, off + i * 4 + 3, none⟩ = some (.int .u32 (pc i)))
set_option maxHeartbeats 8000000 in
set_option maxRecDepth 100000 in
theorem nested_any (c0 c1 c2 c3 c4 c5 c6 c7 c8 z s : Int) (A : Option Addr) (len cap n : Nat) (cd : Nat → Int) (rf dl : Nat → Bool) (pc tg : Nat → Int) (Sf Mf Ef : Nat → Int)
    (hz : Go.bits .andNot .u32 c6 2 = z) (hs : Go.bits .or .u32 z 2 = s) (hn1 : n ≤ len) (hn2 : n ≤ 20) (hn3 : n < len → n = 20)
    (h0 : Sf 0 = z ∧ Mf 0 = c7 ∧ Ef 0 = c8) (hS : ∀ k, k < n → Sf (k + 1) = s) (hE0 : 0 < n → Ef 1 = if dl 0 = true then (pc 0 - 4) % 4294967296 else pc 0) (hE : ∀ k, 0 < k → k < n → Ef (k + 1) = Ef k ∧ tg k = 2147484032)
    (ht : ∀ k, k < n → ∀ w : World, Calls Try.prog 14 #[regs c0 c1 c2 c3 c4 c5 (Sf k) (Mf k) (Ef k), .int .i64 (cd k), .bool (rf k), .int .u32 (pc k), .bool (dl k)] w fun e w' => e = .returned (.tuple #[regs c0 c1 c2 c3 c4 c5 (Sf (k + 1)) (Mf (k + 1)) (Ef (k + 1)), .int .u32 (tg k)]) ∧ Below w.heap.size w w')
    (hr : ∀ w : World, Calls Try.prog 16 #[regs c0 c1 c2 c3 c4 c5 (Sf n) (Mf n) (Ef n)] w fun e w' => e = .returned (.tuple #[regs c0 c1 c2 c3 c4 c5 z (Mf n) (Ef n), .int .u32 (Ef n)]) ∧ Below w.heap.size w w') (w : World) (hx : Excs w A len cd rf dl pc) :
    Calls Try.prog 8 #[regs c0 c1 c2 c3 c4 c5 c6 c7 c8, .slice A len cap] w fun e w' => e = .returned (.bool true) ∧ Below w.heap.size w w' := by
  have HT := Aside0.mk ht
  clear ht
  have HR := Aside0.mk hr
  clear hr
  have H0 := Aside0.mk h0
  clear h0
  have HS := Aside0.mk hS
  clear hS
  have HE0 := Aside0.mk hE0
  clear hE0
  have HE := Aside0.mk hE
  clear hE
  have HX := Aside0.mk hx
  clear hx
  have N3 := Aside0.mk hn3
  clear hn3
  have ll : (len : Int) ≤ 9223372036854775807 := by have := HX.out.1; omega
  go_enter Try.func8, Try.ntmps8
  go_wp2_with fail
  clear hz
  have OW := Aside0.mk ((Owns.start w).new [.int .u32 c0, .int .u32 c1, .int .u32 c2, .int .u32 c3, .int .u32 c4, .int .u32 c5, .int .u32 z, .int .u32 c7, .int .u32 c8] 24)
  go_loopw [6, 7] (fun p i wr => ∃ k : Nat, k ≤ n ∧ i = .int .i64 k ∧ p = .int .u32 (Ef k) ∧ Aside0 (Owns w wr [(w.heap.size, [.int .u32 c0, .int .u32 c1, .int .u32 c2, .int .u32 c3, .int .u32 c4, .int .u32 c5, .int .u32 (Sf k), .int .u32 (Mf k), .int .u32 (Ef k)])])) (fun _ i _ => n - (intOf i).toNat)
  case atStart =>
    refine ⟨0, Nat.zero_le _, rfl, ?_, ?_⟩
    · rw [H0.out.2.2]
    · rw [H0.out.1, H0.out.2.1, H0.out.2.2]
      exact OW
  case round =>
    clear OW
    obtain ⟨k, hk, rfl, rfl, OW⟩ := hrel
    by_cases hlt : k < n
    · have l1 : (k : Int) < (len : Int) := by omega
      have l2 : (k : Int) < 20 := by omega
      have l0 : (0 : Int) ≤ (k : Int) := by omega
      obtain ⟨b, off, rfl, hbl, hcells⟩ := HX.out.2 (by omega)
      obtain ⟨x0, x1, x2, x3⟩ := hcells k (by omega)
      clear hcells
      have lw := OW.out.lt 0 (w.heap.size) _ rfl
      have xr := fun (W : World) (h : Owns w W [(w.heap.size, [.int .u32 c0, .int .u32 c1, .int .u32 c2, .int .u32 c3, .int .u32 c4, .int .u32 c5, .int .u32 (Sf k), .int .u32 (Mf k), .int .u32 (Ef k)])]) (o : Nat) => h.below.cell (p := ⟨b, o, none⟩) hbl
      have xr0 := fun (W : World) (h : Owns w W [(w.heap.size, [.int .u32 c0, .int .u32 c1, .int .u32 c2, .int .u32 c3, .int .u32 c4, .int .u32 c5, .int .u32 (Sf k), .int .u32 (Mf k), .int .u32 (Ef k)])]) => (xr W h _).trans x0
      have xr1 := fun (W : World) (h : Owns w W [(w.heap.size, [.int .u32 c0, .int .u32 c1, .int .u32 c2, .int .u32 c3, .int .u32 c4, .int .u32 c5, .int .u32 (Sf k), .int .u32 (Mf k), .int .u32 (Ef k)])]) => (xr W h _).trans x1
      have xr2 := fun (W : World) (h : Owns w W [(w.heap.size, [.int .u32 c0, .int .u32 c1, .int .u32 c2, .int .u32 c3, .int .u32 c4, .int .u32 c5, .int .u32 (Sf k), .int .u32 (Mf k), .int .u32 (Ef k)])]) => (xr W h _).trans x2
      have xr3 := fun (W : World) (h : Owns w W [(w.heap.size, [.int .u32 c0, .int .u32 c1, .int .u32 c2, .int .u32 c3, .int .u32 c4, .int .u32 c5, .int .u32 (Sf k), .int .u32 (Mf k), .int .u32 (Ef k)])]) => (xr W h _).trans x3
      clear xr x0 x1 x2 x3
      have r0 := fun (W : World) (h : Owns w W [(w.heap.size, [.int .u32 c0, .int .u32 c1, .int .u32 c2, .int .u32 c3, .int .u32 c4, .int .u32 c5, .int .u32 (Sf k), .int .u32 (Mf k), .int .u32 (Ef k)])]) => (h.nine 0 (w.heap.size) _ _ _ _ _ _ _ _ _ rfl).1
      have r1 := fun (W : World) (h : Owns w W [(w.heap.size, [.int .u32 c0, .int .u32 c1, .int .u32 c2, .int .u32 c3, .int .u32 c4, .int .u32 c5, .int .u32 (Sf k), .int .u32 (Mf k), .int .u32 (Ef k)])]) => (h.nine 0 (w.heap.size) _ _ _ _ _ _ _ _ _ rfl).2.1
      have r2 := fun (W : World) (h : Owns w W [(w.heap.size, [.int .u32 c0, .int .u32 c1, .int .u32 c2, .int .u32 c3, .int .u32 c4, .int .u32 c5, .int .u32 (Sf k), .int .u32 (Mf k), .int .u32 (Ef k)])]) => (h.nine 0 (w.heap.size) _ _ _ _ _ _ _ _ _ rfl).2.2.1
      have r3 := fun (W : World) (h : Owns w W [(w.heap.size, [.int .u32 c0, .int .u32 c1, .int .u32 c2, .int .u32 c3, .int .u32 c4, .int .u32 c5, .int .u32 (Sf k), .int .u32 (Mf k), .int .u32 (Ef k)])]) => (h.nine 0 (w.heap.size) _ _ _ _ _ _ _ _ _ rfl).2.2.2.1
      have r4 := fun (W : World) (h : Owns w W [(w.heap.size, [.int .u32 c0, .int .u32 c1, .int .u32 c2, .int .u32 c3, .int .u32 c4, .int .u32 c5, .int .u32 (Sf k), .int .u32 (Mf k), .int .u32 (Ef k)])]) => (h.nine 0 (w.heap.size) _ _ _ _ _ _ _ _ _ rfl).2.2.2.2.1
      have r5 := fun (W : World) (h : Owns w W [(w.heap.size, [.int .u32 c0, .int .u32 c1, .int .u32 c2, .int .u32 c3, .int .u32 c4, .int .u32 c5, .int .u32 (Sf k), .int .u32 (Mf k), .int .u32 (Ef k)])]) => (h.nine 0 (w.heap.size) _ _ _ _ _ _ _ _ _ rfl).2.2.2.2.2.1
      have r6 := fun (W : World) (h : Owns w W [(w.heap.size, [.int .u32 c0, .int .u32 c1, .int .u32 c2, .int .u32 c3, .int .u32 c4, .int .u32 c5, .int .u32 (Sf k), .int .u32 (Mf k), .int .u32 (Ef k)])]) => (h.nine 0 (w.heap.size) _ _ _ _ _ _ _ _ _ rfl).2.2.2.2.2.2.1
      have r7 := fun (W : World) (h : Owns w W [(w.heap.size, [.int .u32 c0, .int .u32 c1, .int .u32 c2, .int .u32 c3, .int .u32 c4, .int .u32 c5, .int .u32 (Sf k), .int .u32 (Mf k), .int .u32 (Ef k)])]) => (h.nine 0 (w.heap.size) _ _ _ _ _ _ _ _ _ rfl).2.2.2.2.2.2.2.1
      have r8 := fun (W : World) (h : Owns w W [(w.heap.size, [.int .u32 c0, .int .u32 c1, .int .u32 c2, .int .u32 c3, .int .u32 c4, .int .u32 c5, .int .u32 (Sf k), .int .u32 (Mf k), .int .u32 (Ef k)])]) => (h.nine 0 (w.heap.size) _ _ _ _ _ _ _ _ _ rfl).2.2.2.2.2.2.2.2
      go_wp2_with fail
      go_region_held3 (fun w' => Owns w w' [(w.heap.size, [.int .u32 c0, .int .u32 c1, .int .u32 c2, .int .u32 c3, .int .u32 c4, .int .u32 c5, .int .u32 (Sf k), .int .u32 (Mf k), .int .u32 (Ef k)])]) (first | with_reducible exact OW.out.drew | with_reducible exact O1.out | with_reducible exact Owns.alloc O1.out _ | with_reducible exact Owns.drew (Owns.alloc OW.out _) | with_reducible exact Owns.alloc (Owns.drew OW.out) _ | with_reducible exact (O2.out).sub (fun p hp => List.mem_cons_of_mem _ hp) | with_reducible exact (Owns.set9 _ _ _ _ _ _ _ _ _ O2.out (by intro p hp; simp at hp; subst hp; simp; omega)).sub (fun p hp => List.mem_cons_of_mem _ hp)) (first | (go_at_call 14; (with_reducible refine (HT.out k hlt _).mono ?_); rintro e w1 ⟨rfl, hb⟩; first | (have O1 : Aside0 (Owns w w1 [(w.heap.size, [.int .u32 c0, .int .u32 c1, .int .u32 c2, .int .u32 c3, .int .u32 c4, .int .u32 c5, .int .u32 (Sf k), .int .u32 (Mf k), .int .u32 (Ef k)])]) := ⟨Owns.call' hb OW.out.drew⟩; clear hb) | (have O2 : Aside0 (Owns w w1 ((wr.heap.size, [.int .u32 0, .int .u32 0, .int .u32 0, .int .u32 0, .int .u32 0, .int .u32 0, .int .u32 0, .int .u32 0, .int .u32 0]) :: [(w.heap.size, [.int .u32 c0, .int .u32 c1, .int .u32 c2, .int .u32 c3, .int .u32 c4, .int .u32 c5, .int .u32 (Sf k), .int .u32 (Mf k), .int .u32 (Ef k)])])) := ⟨Owns.call' hb (OW.out.new [.int .u32 0, .int .u32 0, .int .u32 0, .int .u32 0, .int .u32 0, .int .u32 0, .int .u32 0, .int .u32 0, .int .u32 0] 24).drew⟩; clear hb; obtain ⟨z0, z1, z2, z3, z4, z5, z6, z7, z8⟩ := O2.out.nine 0 (wr.heap.size) _ _ _ _ _ _ _ _ _ rfl; have fr := (O2.out.box 0 (wr.heap.size) _ rfl).free; have fr0 := fr 0 (by simp); have fr1 := fr 1 (by simp); have fr2 := fr 2 (by simp); have fr3 := fr 3 (by simp); have fr4 := fr 4 (by simp); have fr5 := fr 5 (by simp); have fr6 := fr 6 (by simp); have fr7 := fr 7 (by simp); have fr8 := fr 8 (by simp); clear fr)))
      · have O3 : Aside0 (Owns w _ ((w1.heap.size, [.int .u32 c0, .int .u32 c1, .int .u32 c2, .int .u32 c3, .int .u32 c4, .int .u32 c5, .int .u32 (Sf (k + 1)), .int .u32 (Mf (k + 1)), .int .u32 (Ef (k + 1))]) :: [(w.heap.size, [.int .u32 c0, .int .u32 c1, .int .u32 c2, .int .u32 c3, .int .u32 c4, .int .u32 c5, .int .u32 (Sf k), .int .u32 (Mf k), .int .u32 (Ef k)])])) := ⟨O1.out.new [.int .u32 c0, .int .u32 c1, .int .u32 c2, .int .u32 c3, .int .u32 c4, .int .u32 c5, .int .u32 (Sf (k + 1)), .int .u32 (Mf (k + 1)), .int .u32 (Ef (k + 1))] 24⟩
        generalize (w1.alloc (.cells #[.int .u32 c0, .int .u32 c1, .int .u32 c2, .int .u32 c3, .int .u32 c4, .int .u32 c5, .int .u32 (Sf (k + 1)), .int .u32 (Mf (k + 1)), .int .u32 (Ef (k + 1))] 24)) = W3 at O3 ⊢
        have y2 := xr2 _ (O3.out.sub (fun p hp => List.mem_cons_of_mem _ hp))
        have y3 := xr3 _ (O3.out.sub (fun p hp => List.mem_cons_of_mem _ hp))
        clear xr0 xr1 xr2 xr3 r0 r1 r2 r3 r4 r5 r6 r7 r8
        obtain ⟨d0, d1, d2, d3, d4, d5, d6, d7, d8⟩ := O3.out.nine 0 (w1.heap.size) _ _ _ _ _ _ _ _ _ rfl
        obtain ⟨e0, e1, e2, e3, e4, e5, e6, e7, e8⟩ := O3.out.nine 1 (w.heap.size) _ _ _ _ _ _ _ _ _ rfl
        have frr := (O3.out.box 1 (w.heap.size) _ rfl).free
        have fq0 := frr 0 (by simp)
        have fq1 := frr 1 (by simp)
        have fq2 := frr 2 (by simp)
        have fq3 := frr 3 (by simp)
        have fq4 := frr 4 (by simp)
        have fq5 := frr 5 (by simp)
        have fq6 := frr 6 (by simp)
        have fq7 := frr 7 (by simp)
        have fq8 := frr 8 (by simp)
        clear frr
        have lt0 := O3.out.lt 0 (w1.heap.size) _ rfl
        have lt1 := O3.out.lt 1 (w.heap.size) _ rfl
        have b1 : (Sf (k + 1) != s) = false := by rw [HS.out k hlt]; simp
        by_cases hk0 : k = 0
        · have ez : ((k : Int) == 0) = true := by rw [hk0]; rfl
          have ez2 : decide ((0 : Int) < (k : Int)) = false := by rw [hk0]; rfl
          cases hdl : dl k
          · have HV : Aside0 (pc k = Ef (k + 1)) := ⟨by subst hk0; rw [HE0.out (by omega), hdl]; rfl⟩
            have b2 : (Ef (k + 1) != pc k) = false := by rw [HV.out]; simp
            rw [hdl] at y2
            clear hk0 hdl
            go_wp2_with fail
            refine ⟨⟨k + 1, by omega, by go_num, by rw [HV.out], ⟨(Owns.set9 _ _ _ _ _ _ _ _ _ (O3.out.sub (cs := [(w.heap.size, [.int .u32 c0, .int .u32 c1, .int .u32 c2, .int .u32 c3, .int .u32 c4, .int .u32 c5, .int .u32 (Sf k), .int .u32 (Mf k), .int .u32 (Ef k)])]) (fun p hp => List.mem_cons_of_mem _ hp)) (by intro p hp; cases hp))⟩⟩, by simp [intOf]; omega⟩
          · have HV : Aside0 ((pc k - 4) % 4294967296 = Ef (k + 1)) := ⟨by subst hk0; rw [HE0.out (by omega), hdl]; rfl⟩
            have b2 : (Ef (k + 1) != (pc k - 4) % 4294967296) = false := by rw [HV.out]; simp
            rw [hdl] at y2
            clear hk0 hdl
            go_wp2_with fail
            refine ⟨⟨k + 1, by omega, by go_num, by rw [HV.out], ⟨(Owns.set9 _ _ _ _ _ _ _ _ _ (O3.out.sub (cs := [(w.heap.size, [.int .u32 c0, .int .u32 c1, .int .u32 c2, .int .u32 c3, .int .u32 c4, .int .u32 c5, .int .u32 (Sf k), .int .u32 (Mf k), .int .u32 (Ef k)])]) (fun p hp => List.mem_cons_of_mem _ hp)) (by intro p hp; cases hp))⟩⟩, by simp [intOf]; omega⟩
        · have ez : ((k : Int) == 0) = false := by simp [hk0]
          have ez2 : decide ((0 : Int) < (k : Int)) = true := by simp; omega
          have ez3 : (0 : Int) < (k : Int) := by omega
          obtain ⟨g1, g2⟩ := HE.out k (by omega) hlt
          have b2 : (Ef (k + 1) != Ef k) = false := by rw [g1]; simp
          have b3 : (tg k != 2147484032) = false := by rw [g2]; rfl
          have G1 := Aside0.mk g1
          clear g1 g2 hk0
          go_wp2_with fail
          refine ⟨⟨k + 1, by omega, by go_num, by rw [G1.out], ⟨(Owns.set9 _ _ _ _ _ _ _ _ _ (O3.out.sub (cs := [(w.heap.size, [.int .u32 c0, .int .u32 c1, .int .u32 c2, .int .u32 c3, .int .u32 c4, .int .u32 c5, .int .u32 (Sf k), .int .u32 (Mf k), .int .u32 (Ef k)])]) (fun p hp => List.mem_cons_of_mem _ hp)) (by intro p hp; cases hp))⟩⟩, by simp [intOf]; omega⟩
      · have O3 : Aside0 (Owns w _ ((wr.heap.size, [.int .u32 c0, .int .u32 c1, .int .u32 c2, .int .u32 c3, .int .u32 c4, .int .u32 c5, .int .u32 (Sf (k + 1)), .int .u32 (Mf (k + 1)), .int .u32 (Ef (k + 1))]) :: [(w.heap.size, [.int .u32 c0, .int .u32 c1, .int .u32 c2, .int .u32 c3, .int .u32 c4, .int .u32 c5, .int .u32 (Sf k), .int .u32 (Mf k), .int .u32 (Ef k)])])) := ⟨Owns.set9 (.int .u32 c0) (.int .u32 c1) (.int .u32 c2) (.int .u32 c3) (.int .u32 c4) (.int .u32 c5) (.int .u32 (Sf (k + 1))) (.int .u32 (Mf (k + 1))) (.int .u32 (Ef (k + 1))) O2.out (by intro p hp; simp at hp; subst hp; simp; omega)⟩
        generalize (((((((((w1.setCell ⟨wr.heap.size, 0, none⟩ (.int .u32 c0)).setCell ⟨wr.heap.size, 1, none⟩ (.int .u32 c1)).setCell ⟨wr.heap.size, 2, none⟩ (.int .u32 c2)).setCell ⟨wr.heap.size, 3, none⟩ (.int .u32 c3)).setCell ⟨wr.heap.size, 4, none⟩ (.int .u32 c4)).setCell ⟨wr.heap.size, 5, none⟩ (.int .u32 c5)).setCell ⟨wr.heap.size, 6, none⟩ (.int .u32 (Sf (k + 1)))).setCell ⟨wr.heap.size, 7, none⟩ (.int .u32 (Mf (k + 1)))).setCell ⟨wr.heap.size, 8, none⟩ (.int .u32 (Ef (k + 1)))) = W3 at O3 ⊢
        clear z0 z1 z2 z3 z4 z5 z6 z7 z8 fr0 fr1 fr2 fr3 fr4 fr5 fr6 fr7 fr8
        have y2 := xr2 _ (O3.out.sub (fun p hp => List.mem_cons_of_mem _ hp))
        have y3 := xr3 _ (O3.out.sub (fun p hp => List.mem_cons_of_mem _ hp))
        clear xr0 xr1 xr2 xr3 r0 r1 r2 r3 r4 r5 r6 r7 r8
        obtain ⟨d0, d1, d2, d3, d4, d5, d6, d7, d8⟩ := O3.out.nine 0 (wr.heap.size) _ _ _ _ _ _ _ _ _ rfl
        obtain ⟨e0, e1, e2, e3, e4, e5, e6, e7, e8⟩ := O3.out.nine 1 (w.heap.size) _ _ _ _ _ _ _ _ _ rfl
        have frr := (O3.out.box 1 (w.heap.size) _ rfl).free
        have fq0 := frr 0 (by simp)
        have fq1 := frr 1 (by simp)
        have fq2 := frr 2 (by simp)
        have fq3 := frr 3 (by simp)
        have fq4 := frr 4 (by simp)
        have fq5 := frr 5 (by simp)
        have fq6 := frr 6 (by simp)
        have fq7 := frr 7 (by simp)
        have fq8 := frr 8 (by simp)
        clear frr
        have lt0 := O3.out.lt 0 (wr.heap.size) _ rfl
        have lt1 := O3.out.lt 1 (w.heap.size) _ rfl
        have b1 : (Sf (k + 1) != s) = false := by rw [HS.out k hlt]; simp
        by_cases hk0 : k = 0
        · have ez : ((k : Int) == 0) = true := by rw [hk0]; rfl
          have ez2 : decide ((0 : Int) < (k : Int)) = false := by rw [hk0]; rfl
          cases hdl : dl k
          · have HV : Aside0 (pc k = Ef (k + 1)) := ⟨by subst hk0; rw [HE0.out (by omega), hdl]; rfl⟩
            have b2 : (Ef (k + 1) != pc k) = false := by rw [HV.out]; simp
            rw [hdl] at y2
            clear hk0 hdl
            go_wp2_with fail
            refine ⟨⟨k + 1, by omega, by go_num, by rw [HV.out], ⟨(Owns.set9 _ _ _ _ _ _ _ _ _ (O3.out.sub (cs := [(w.heap.size, [.int .u32 c0, .int .u32 c1, .int .u32 c2, .int .u32 c3, .int .u32 c4, .int .u32 c5, .int .u32 (Sf k), .int .u32 (Mf k), .int .u32 (Ef k)])]) (fun p hp => List.mem_cons_of_mem _ hp)) (by intro p hp; cases hp))⟩⟩, by simp [intOf]; omega⟩
          · have HV : Aside0 ((pc k - 4) % 4294967296 = Ef (k + 1)) := ⟨by subst hk0; rw [HE0.out (by omega), hdl]; rfl⟩
            have b2 : (Ef (k + 1) != (pc k - 4) % 4294967296) = false := by rw [HV.out]; simp
            rw [hdl] at y2
            clear hk0 hdl
            go_wp2_with fail
            refine ⟨⟨k + 1, by omega, by go_num, by rw [HV.out], ⟨(Owns.set9 _ _ _ _ _ _ _ _ _ (O3.out.sub (cs := [(w.heap.size, [.int .u32 c0, .int .u32 c1, .int .u32 c2, .int .u32 c3, .int .u32 c4, .int .u32 c5, .int .u32 (Sf k), .int .u32 (Mf k), .int .u32 (Ef k)])]) (fun p hp => List.mem_cons_of_mem _ hp)) (by intro p hp; cases hp))⟩⟩, by simp [intOf]; omega⟩
        · have ez : ((k : Int) == 0) = false := by simp [hk0]
          have ez2 : decide ((0 : Int) < (k : Int)) = true := by simp; omega
          have ez3 : (0 : Int) < (k : Int) := by omega
          obtain ⟨g1, g2⟩ := HE.out k (by omega) hlt
          have b2 : (Ef (k + 1) != Ef k) = false := by rw [g1]; simp
          have b3 : (tg k != 2147484032) = false := by rw [g2]; rfl
          have G1 := Aside0.mk g1
          clear g1 g2 hk0
          go_wp2_with fail
          refine ⟨⟨k + 1, by omega, by go_num, by rw [G1.out], ⟨(Owns.set9 _ _ _ _ _ _ _ _ _ (O3.out.sub (cs := [(w.heap.size, [.int .u32 c0, .int .u32 c1, .int .u32 c2, .int .u32 c3, .int .u32 c4, .int .u32 c5, .int .u32 (Sf k), .int .u32 (Mf k), .int .u32 (Ef k)])]) (fun p hp => List.mem_cons_of_mem _ hp)) (by intro p hp; cases hp))⟩⟩, by simp [intOf]; omega⟩
    · obtain rfl : k = n := by omega
      obtain ⟨d0, d1, d2, d3, d4, d5, d6, d7, d8⟩ := OW.out.nine 0 (w.heap.size) _ _ _ _ _ _ _ _ _ rfl
      have lt0 := OW.out.lt 0 (w.heap.size) _ rfl
      by_cases h20 : k < len
      · have e20 := N3.out h20
        have l1 : (k : Int) < (len : Int) := by omega
        have l2 : ¬ (k : Int) < 20 := by omega
        clear e20
        go_wp2_with fail
        refine (HR.out _).mono ?_
        rintro e w1 ⟨rfl, hb⟩
        have O2 := Aside0.mk (OW.out.call hb)
        clear hb
        go_wp2_with fail
        refine (fixed_c _).mono ?_
        rintro e w2 ⟨rfl, hb⟩
        have O3 := Aside0.mk ((O2.out.alloc _).call hb)
        clear hb
        go_wp2_with fail
        go_ret
        exact ⟨rfl, O3.out.below⟩
      · have l1 : ¬ (k : Int) < (len : Int) := by omega
        go_wp2_with fail
        refine (HR.out _).mono ?_
        rintro e w1 ⟨rfl, hb⟩
        have O2 := Aside0.mk (OW.out.call hb)
        clear hb
        go_wp2_with fail
        refine (fixed_c _).mono ?_
        rintro e w2 ⟨rfl, hb⟩
        have O3 := Aside0.mk ((O2.out.alloc _).call hb)
        clear hb
        go_wp2_with fail
        go_ret
        exact ⟨rfl, O3.out.below⟩
end Go.Proofs.Yticibpginpkbfaa.LawH
