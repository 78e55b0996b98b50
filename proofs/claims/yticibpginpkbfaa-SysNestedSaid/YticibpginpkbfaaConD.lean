/- The walks of the document's Raise, over the contracts of what it calls. Conditions: those contracts, as premises; the place is a word. -/
import Derived.Test.YticibpginpkbfaaConA
namespace Go.Proofs.Yticibpginpkbfaa.Con
open Go.RowKit Go.Proofs.Yticibpginpkbfaa.Fun Go.Proofs.Yticibpginpkbfaa.Bits Go.Proofs.YticibpginpkbfaaW.PrintWords Go.Proofs.YticibpginpkbfaaW.PrintLast Go.Proofs.YticibpginpkbfaaW.PrintMore
set_option linter.unusedVariables false
set_option linter.unusedSimpArgs false
set_option maxHeartbeats 4000000 in
set_option maxRecDepth 100000 in
theorem rraise_ex (c0 c1 c2 c3 c4 c5 c6 c7 c8 code pc s d v m : Int) (refill delay : Bool)
    (C0 : ∀ w : World, Calls Try.prog 29 #[.int .u32 c6, .int .i64 1] w fun e w' => e = .returned (.bool true) ∧ w = w')
    (C1 : ∀ w : World, Calls Try.prog 28 #[.int .u32 c6, .int .i64 1, .bool true] w fun e w' => e = .returned (.int .u32 s) ∧ w = w')
    (C2 : ∀ w : World, Calls Try.prog 27 #[.int .u32 c7, .int .u32 v, .int .i64 2, .int .i64 6] w fun e w' => e = .returned (.int .u32 m) ∧ w = w')
    (x : Int) (hx : Int.tmod code 32 = x) (y : Int) (hy : x < 0 → wrap64 (x + 32) = y) (hy2 : ¬ x < 0 → x = y) (hv : wrap64 (4 * y) % 4294967296 = v) (p0 : 0 ≤ pc) (p1 : pc ≤ 4294967295) (w : World) :
    Calls Try.prog 15 #[regs c0 c1 c2 c3 c4 c5 c6 c7 c8, .int .i64 code, .bool refill, .int .u32 pc, .bool delay] w fun e w' => e = .returned (.tuple #[regs c0 c1 c2 c3 c4 c5 s m c8, .int .u32 2147484032]) ∧ Below w.heap.size w w' := by
  have H0 := Aside0.mk C0
  clear C0
  have H1 := Aside0.mk C1
  clear C1
  have H2 := Aside0.mk C2
  clear C2
  clear p0 p1
  by_cases hn : x < 0
  · have hd : decide (x < 0) = true := by simp [hn]
    have hy' := hy hn
    clear hy hy2 hn
    go_enter Try.func15, Try.ntmps15
    go_wp2_with (first | (go_at_call 29; (with_reducible refine (H0.out _).mono ?_); rintro e w' ⟨rfl, rfl⟩) | (go_at_call 28; (with_reducible refine (H1.out _).mono ?_); rintro e w' ⟨rfl, rfl⟩) | (go_at_call 27; (with_reducible refine (H2.out _).mono ?_); rintro e w' ⟨rfl, rfl⟩))
    exact bodyPost_ret (v := .tuple #[regs _ _ _ _ _ _ _ _ _, .int .u32 _]) (by simp [results, Try.results15, go_sem]) rfl ⟨rfl, by repeat (first | exact Below.refl _ _ | apply pw_below_drewN | apply below_drew | refine Below.alloc ?_ (by simp) _)⟩
  · have hd : decide (x < 0) = false := by simp [hn]
    have hy' := hy2 hn
    subst hy'
    clear hy hy2 hn
    go_enter Try.func15, Try.ntmps15
    go_wp2_with (first | (go_at_call 29; (with_reducible refine (H0.out _).mono ?_); rintro e w' ⟨rfl, rfl⟩) | (go_at_call 28; (with_reducible refine (H1.out _).mono ?_); rintro e w' ⟨rfl, rfl⟩) | (go_at_call 27; (with_reducible refine (H2.out _).mono ?_); rintro e w' ⟨rfl, rfl⟩))
    exact bodyPost_ret (v := .tuple #[regs _ _ _ _ _ _ _ _ _, .int .u32 _]) (by simp [results, Try.results15, go_sem]) rfl ⟨rfl, by repeat (first | exact Below.refl _ _ | apply pw_below_drewN | apply below_drew | refine Below.alloc ?_ (by simp) _)⟩
set_option maxHeartbeats 4000000 in
set_option maxRecDepth 100000 in
theorem rraise_nff (c0 c1 c2 c3 c4 c5 c6 c7 c8 code pc s d v m : Int) (refill delay : Bool)
    (C0 : ∀ w : World, Calls Try.prog 29 #[.int .u32 c6, .int .i64 1] w fun e w' => e = .returned (.bool false) ∧ w = w')
    (C1 : ∀ w : World, Calls Try.prog 28 #[.int .u32 c6, .int .i64 1, .bool true] w fun e w' => e = .returned (.int .u32 s) ∧ w = w')
    (C2 : ∀ w : World, Calls Try.prog 28 #[.int .u32 c7, .int .i64 31, .bool false] w fun e w' => e = .returned (.int .u32 d) ∧ w = w')
    (C3 : ∀ w : World, Calls Try.prog 27 #[.int .u32 d, .int .u32 v, .int .i64 2, .int .i64 6] w fun e w' => e = .returned (.int .u32 m) ∧ w = w')
    (x : Int) (hx : Int.tmod code 32 = x) (y : Int) (hy : x < 0 → wrap64 (x + 32) = y) (hy2 : ¬ x < 0 → x = y) (hv : wrap64 (4 * y) % 4294967296 = v) (p0 : 0 ≤ pc) (p1 : pc ≤ 4294967295) (w : World) :
    Calls Try.prog 15 #[regs c0 c1 c2 c3 c4 c5 c6 c7 c8, .int .i64 code, .bool false, .int .u32 pc, .bool false] w fun e w' => e = .returned (.tuple #[regs c0 c1 c2 c3 c4 c5 s m pc, .int .u32 2147484032]) ∧ Below w.heap.size w w' := by
  have H0 := Aside0.mk C0
  clear C0
  have H1 := Aside0.mk C1
  clear C1
  have H2 := Aside0.mk C2
  clear C2
  have H3 := Aside0.mk C3
  clear C3
  clear p0 p1
  by_cases hn : x < 0
  · have hd : decide (x < 0) = true := by simp [hn]
    have hy' := hy hn
    clear hy hy2 hn
    go_enter Try.func15, Try.ntmps15
    go_wp2_with (first | (go_at_call 29; (with_reducible refine (H0.out _).mono ?_); rintro e w' ⟨rfl, rfl⟩) | (go_at_call 28; (with_reducible refine (H1.out _).mono ?_); rintro e w' ⟨rfl, rfl⟩) | (go_at_call 28; (with_reducible refine (H2.out _).mono ?_); rintro e w' ⟨rfl, rfl⟩) | (go_at_call 27; (with_reducible refine (H3.out _).mono ?_); rintro e w' ⟨rfl, rfl⟩))
    exact bodyPost_ret (v := .tuple #[regs _ _ _ _ _ _ _ _ _, .int .u32 _]) (by simp [results, Try.results15, go_sem]) rfl ⟨rfl, by repeat (first | exact Below.refl _ _ | apply pw_below_drewN | apply below_drew | refine Below.alloc ?_ (by simp) _)⟩
  · have hd : decide (x < 0) = false := by simp [hn]
    have hy' := hy2 hn
    subst hy'
    clear hy hy2 hn
    go_enter Try.func15, Try.ntmps15
    go_wp2_with (first | (go_at_call 29; (with_reducible refine (H0.out _).mono ?_); rintro e w' ⟨rfl, rfl⟩) | (go_at_call 28; (with_reducible refine (H1.out _).mono ?_); rintro e w' ⟨rfl, rfl⟩) | (go_at_call 28; (with_reducible refine (H2.out _).mono ?_); rintro e w' ⟨rfl, rfl⟩) | (go_at_call 27; (with_reducible refine (H3.out _).mono ?_); rintro e w' ⟨rfl, rfl⟩))
    exact bodyPost_ret (v := .tuple #[regs _ _ _ _ _ _ _ _ _, .int .u32 _]) (by simp [results, Try.results15, go_sem]) rfl ⟨rfl, by repeat (first | exact Below.refl _ _ | apply pw_below_drewN | apply below_drew | refine Below.alloc ?_ (by simp) _)⟩
set_option maxHeartbeats 4000000 in
set_option maxRecDepth 100000 in
theorem rraise_nft (c0 c1 c2 c3 c4 c5 c6 c7 c8 code pc s d v m : Int) (refill delay : Bool)
    (C0 : ∀ w : World, Calls Try.prog 29 #[.int .u32 c6, .int .i64 1] w fun e w' => e = .returned (.bool false) ∧ w = w')
    (C1 : ∀ w : World, Calls Try.prog 28 #[.int .u32 c6, .int .i64 1, .bool true] w fun e w' => e = .returned (.int .u32 s) ∧ w = w')
    (C2 : ∀ w : World, Calls Try.prog 28 #[.int .u32 c7, .int .i64 31, .bool false] w fun e w' => e = .returned (.int .u32 d) ∧ w = w')
    (C3 : ∀ w : World, Calls Try.prog 27 #[.int .u32 d, .int .u32 v, .int .i64 2, .int .i64 6] w fun e w' => e = .returned (.int .u32 m) ∧ w = w')
    (x : Int) (hx : Int.tmod code 32 = x) (y : Int) (hy : x < 0 → wrap64 (x + 32) = y) (hy2 : ¬ x < 0 → x = y) (hv : wrap64 (4 * y) % 4294967296 = v) (p0 : 0 ≤ pc) (p1 : pc ≤ 4294967295) (w : World) :
    Calls Try.prog 15 #[regs c0 c1 c2 c3 c4 c5 c6 c7 c8, .int .i64 code, .bool true, .int .u32 pc, .bool false] w fun e w' => e = .returned (.tuple #[regs c0 c1 c2 c3 c4 c5 s m pc, .int .u32 2147483648]) ∧ Below w.heap.size w w' := by
  have H0 := Aside0.mk C0
  clear C0
  have H1 := Aside0.mk C1
  clear C1
  have H2 := Aside0.mk C2
  clear C2
  have H3 := Aside0.mk C3
  clear C3
  clear p0 p1
  by_cases hn : x < 0
  · have hd : decide (x < 0) = true := by simp [hn]
    have hy' := hy hn
    clear hy hy2 hn
    go_enter Try.func15, Try.ntmps15
    go_wp2_with (first | (go_at_call 29; (with_reducible refine (H0.out _).mono ?_); rintro e w' ⟨rfl, rfl⟩) | (go_at_call 28; (with_reducible refine (H1.out _).mono ?_); rintro e w' ⟨rfl, rfl⟩) | (go_at_call 28; (with_reducible refine (H2.out _).mono ?_); rintro e w' ⟨rfl, rfl⟩) | (go_at_call 27; (with_reducible refine (H3.out _).mono ?_); rintro e w' ⟨rfl, rfl⟩))
    exact bodyPost_ret (v := .tuple #[regs _ _ _ _ _ _ _ _ _, .int .u32 _]) (by simp [results, Try.results15, go_sem]) rfl ⟨rfl, by repeat (first | exact Below.refl _ _ | apply pw_below_drewN | apply below_drew | refine Below.alloc ?_ (by simp) _)⟩
  · have hd : decide (x < 0) = false := by simp [hn]
    have hy' := hy2 hn
    subst hy'
    clear hy hy2 hn
    go_enter Try.func15, Try.ntmps15
    go_wp2_with (first | (go_at_call 29; (with_reducible refine (H0.out _).mono ?_); rintro e w' ⟨rfl, rfl⟩) | (go_at_call 28; (with_reducible refine (H1.out _).mono ?_); rintro e w' ⟨rfl, rfl⟩) | (go_at_call 28; (with_reducible refine (H2.out _).mono ?_); rintro e w' ⟨rfl, rfl⟩) | (go_at_call 27; (with_reducible refine (H3.out _).mono ?_); rintro e w' ⟨rfl, rfl⟩))
    exact bodyPost_ret (v := .tuple #[regs _ _ _ _ _ _ _ _ _, .int .u32 _]) (by simp [results, Try.results15, go_sem]) rfl ⟨rfl, by repeat (first | exact Below.refl _ _ | apply pw_below_drewN | apply below_drew | refine Below.alloc ?_ (by simp) _)⟩
set_option maxHeartbeats 4000000 in
set_option maxRecDepth 100000 in
theorem rraise_ntf (c0 c1 c2 c3 c4 c5 c6 c7 c8 code pc s d v m : Int) (refill delay : Bool)
    (C0 : ∀ w : World, Calls Try.prog 29 #[.int .u32 c6, .int .i64 1] w fun e w' => e = .returned (.bool false) ∧ w = w')
    (C1 : ∀ w : World, Calls Try.prog 28 #[.int .u32 c6, .int .i64 1, .bool true] w fun e w' => e = .returned (.int .u32 s) ∧ w = w')
    (C2 : ∀ w : World, Calls Try.prog 28 #[.int .u32 c7, .int .i64 31, .bool true] w fun e w' => e = .returned (.int .u32 d) ∧ w = w')
    (C3 : ∀ w : World, Calls Try.prog 27 #[.int .u32 d, .int .u32 v, .int .i64 2, .int .i64 6] w fun e w' => e = .returned (.int .u32 m) ∧ w = w')
    (x : Int) (hx : Int.tmod code 32 = x) (y : Int) (hy : x < 0 → wrap64 (x + 32) = y) (hy2 : ¬ x < 0 → x = y) (hv : wrap64 (4 * y) % 4294967296 = v) (p0 : 0 ≤ pc) (p1 : pc ≤ 4294967295) (w : World) :
    Calls Try.prog 15 #[regs c0 c1 c2 c3 c4 c5 c6 c7 c8, .int .i64 code, .bool false, .int .u32 pc, .bool true] w fun e w' => e = .returned (.tuple #[regs c0 c1 c2 c3 c4 c5 s m ((pc - 4) % 4294967296), .int .u32 2147484032]) ∧ Below w.heap.size w w' := by
  have H0 := Aside0.mk C0
  clear C0
  have H1 := Aside0.mk C1
  clear C1
  have H2 := Aside0.mk C2
  clear C2
  have H3 := Aside0.mk C3
  clear C3
  have e1 : wrap64 (pc + 4294967296) = pc + 4294967296 := by unfold wrap64; omega
  have e2 : wrap64 (pc + 4294967296 - 4) = pc + 4294967296 - 4 := by unfold wrap64; omega
  have e3 : Int.tmod (pc + 4294967296 - 4) 4294967296 = (pc - 4) % 4294967296 := by rw [Int.tmod_eq_emod_of_nonneg (by omega)]; omega
  have e4 : (pc + 4294967296 - 4) % 4294967296 = (pc - 4) % 4294967296 := by omega
  have e5 : pc ≤ 9223372036854775807 := by omega
  by_cases hn : x < 0
  · have hd : decide (x < 0) = true := by simp [hn]
    have hy' := hy hn
    clear hy hy2 hn
    go_enter Try.func15, Try.ntmps15
    go_wp2_with (first | (go_at_call 29; (with_reducible refine (H0.out _).mono ?_); rintro e w' ⟨rfl, rfl⟩) | (go_at_call 28; (with_reducible refine (H1.out _).mono ?_); rintro e w' ⟨rfl, rfl⟩) | (go_at_call 28; (with_reducible refine (H2.out _).mono ?_); rintro e w' ⟨rfl, rfl⟩) | (go_at_call 27; (with_reducible refine (H3.out _).mono ?_); rintro e w' ⟨rfl, rfl⟩))
    exact bodyPost_ret (v := .tuple #[regs _ _ _ _ _ _ _ _ _, .int .u32 _]) (by simp [results, Try.results15, go_sem]) rfl ⟨rfl, by repeat (first | exact Below.refl _ _ | apply pw_below_drewN | apply below_drew | refine Below.alloc ?_ (by simp) _)⟩
  · have hd : decide (x < 0) = false := by simp [hn]
    have hy' := hy2 hn
    subst hy'
    clear hy hy2 hn
    go_enter Try.func15, Try.ntmps15
    go_wp2_with (first | (go_at_call 29; (with_reducible refine (H0.out _).mono ?_); rintro e w' ⟨rfl, rfl⟩) | (go_at_call 28; (with_reducible refine (H1.out _).mono ?_); rintro e w' ⟨rfl, rfl⟩) | (go_at_call 28; (with_reducible refine (H2.out _).mono ?_); rintro e w' ⟨rfl, rfl⟩) | (go_at_call 27; (with_reducible refine (H3.out _).mono ?_); rintro e w' ⟨rfl, rfl⟩))
    exact bodyPost_ret (v := .tuple #[regs _ _ _ _ _ _ _ _ _, .int .u32 _]) (by simp [results, Try.results15, go_sem]) rfl ⟨rfl, by repeat (first | exact Below.refl _ _ | apply pw_below_drewN | apply below_drew | refine Below.alloc ?_ (by simp) _)⟩
set_option maxHeartbeats 4000000 in
set_option maxRecDepth 100000 in
theorem rraise_ntt (c0 c1 c2 c3 c4 c5 c6 c7 c8 code pc s d v m : Int) (refill delay : Bool)
    (C0 : ∀ w : World, Calls Try.prog 29 #[.int .u32 c6, .int .i64 1] w fun e w' => e = .returned (.bool false) ∧ w = w')
    (C1 : ∀ w : World, Calls Try.prog 28 #[.int .u32 c6, .int .i64 1, .bool true] w fun e w' => e = .returned (.int .u32 s) ∧ w = w')
    (C2 : ∀ w : World, Calls Try.prog 28 #[.int .u32 c7, .int .i64 31, .bool true] w fun e w' => e = .returned (.int .u32 d) ∧ w = w')
    (C3 : ∀ w : World, Calls Try.prog 27 #[.int .u32 d, .int .u32 v, .int .i64 2, .int .i64 6] w fun e w' => e = .returned (.int .u32 m) ∧ w = w')
    (x : Int) (hx : Int.tmod code 32 = x) (y : Int) (hy : x < 0 → wrap64 (x + 32) = y) (hy2 : ¬ x < 0 → x = y) (hv : wrap64 (4 * y) % 4294967296 = v) (p0 : 0 ≤ pc) (p1 : pc ≤ 4294967295) (w : World) :
    Calls Try.prog 15 #[regs c0 c1 c2 c3 c4 c5 c6 c7 c8, .int .i64 code, .bool true, .int .u32 pc, .bool true] w fun e w' => e = .returned (.tuple #[regs c0 c1 c2 c3 c4 c5 s m ((pc - 4) % 4294967296), .int .u32 2147483648]) ∧ Below w.heap.size w w' := by
  have H0 := Aside0.mk C0
  clear C0
  have H1 := Aside0.mk C1
  clear C1
  have H2 := Aside0.mk C2
  clear C2
  have H3 := Aside0.mk C3
  clear C3
  have e1 : wrap64 (pc + 4294967296) = pc + 4294967296 := by unfold wrap64; omega
  have e2 : wrap64 (pc + 4294967296 - 4) = pc + 4294967296 - 4 := by unfold wrap64; omega
  have e3 : Int.tmod (pc + 4294967296 - 4) 4294967296 = (pc - 4) % 4294967296 := by rw [Int.tmod_eq_emod_of_nonneg (by omega)]; omega
  have e4 : (pc + 4294967296 - 4) % 4294967296 = (pc - 4) % 4294967296 := by omega
  have e5 : pc ≤ 9223372036854775807 := by omega
  by_cases hn : x < 0
  · have hd : decide (x < 0) = true := by simp [hn]
    have hy' := hy hn
    clear hy hy2 hn
    go_enter Try.func15, Try.ntmps15
    go_wp2_with (first | (go_at_call 29; (with_reducible refine (H0.out _).mono ?_); rintro e w' ⟨rfl, rfl⟩) | (go_at_call 28; (with_reducible refine (H1.out _).mono ?_); rintro e w' ⟨rfl, rfl⟩) | (go_at_call 28; (with_reducible refine (H2.out _).mono ?_); rintro e w' ⟨rfl, rfl⟩) | (go_at_call 27; (with_reducible refine (H3.out _).mono ?_); rintro e w' ⟨rfl, rfl⟩))
    exact bodyPost_ret (v := .tuple #[regs _ _ _ _ _ _ _ _ _, .int .u32 _]) (by simp [results, Try.results15, go_sem]) rfl ⟨rfl, by repeat (first | exact Below.refl _ _ | apply pw_below_drewN | apply below_drew | refine Below.alloc ?_ (by simp) _)⟩
  · have hd : decide (x < 0) = false := by simp [hn]
    have hy' := hy2 hn
    subst hy'
    clear hy hy2 hn
    go_enter Try.func15, Try.ntmps15
    go_wp2_with (first | (go_at_call 29; (with_reducible refine (H0.out _).mono ?_); rintro e w' ⟨rfl, rfl⟩) | (go_at_call 28; (with_reducible refine (H1.out _).mono ?_); rintro e w' ⟨rfl, rfl⟩) | (go_at_call 28; (with_reducible refine (H2.out _).mono ?_); rintro e w' ⟨rfl, rfl⟩) | (go_at_call 27; (with_reducible refine (H3.out _).mono ?_); rintro e w' ⟨rfl, rfl⟩))
    exact bodyPost_ret (v := .tuple #[regs _ _ _ _ _ _ _ _ _, .int .u32 _]) (by simp [results, Try.results15, go_sem]) rfl ⟨rfl, by repeat (first | exact Below.refl _ _ | apply pw_below_drewN | apply below_drew | refine Below.alloc ?_ (by simp) _)⟩
end Go.Proofs.Yticibpginpkbfaa.Con
