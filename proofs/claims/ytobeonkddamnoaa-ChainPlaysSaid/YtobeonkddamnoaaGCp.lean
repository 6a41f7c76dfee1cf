/- Each function of the group Cp does what its plain function says, and changes nothing that was there; proved by walking its code. No condition. -/
import Derived.Test.YtobeonkddamnoaaQw
import Derived.Test.YtobeonkddamnoaaMCp
import Derived.Test.YtobeonkddamnoaaGCp0
import Derived.Test.YtobeonkddamnoaaGCp1
import Derived.Test.YtobeonkddamnoaaGCp2
namespace Go.Proofs.Ytobeonkddamnoaa.C
open Go.RowKit Go.Proofs.YtobeonkddamnoaaW.PrintWords Go.Proofs.YtobeonkddamnoaaW.PrintLast Go.Proofs.Ytobeonkddamnoaa.Q Go.Proofs.Ytobeonkddamnoaa.M
set_option linter.unusedVariables false
set_option linter.unusedSimpArgs false
set_option maxHeartbeats 30000000 in
set_option maxRecDepth 100000 in
theorem quitrentref08_Ends.calls (l00 : List Int) (A00 : Option Addr) (n00 : Nat) (r : Int × Int × Int) (w : World) (HR00 : Aside0 (Rd (Kd.int .i64) (fps []) w A00 l00.length l00))  (HS : Aside0 (Sep (fps []) w [] w)) (H : Aside0 (quitrentref08_Ends.f l00 = some r)) :
    Calls Try.prog 98 #[.slice A00 l00.length n00] w fun e w' => e = .returned (.tuple #[.int .i64 r.1, .int .i64 r.2.1, .int .i64 r.2.2]) ∧ Sep (fps []) w [] w' := by
  unfold quitrentref08_Ends.f at H
  go_enter Try.func98, Try.ntmps98
  by_cases c00 : (l00.length : Int) = 0
  ·replace H := if_yes c00 H
   have c00b0 : ((l00.length : Int) == 0) = true := beq_iff_eq.mpr c00
   have c00b1 : ((l00.length : Int) != 0) = false := bne_eq_false_iff_eq.mpr c00
   clear c00
   go_wp2_with fail
   go_ret3
   rw [← some_eq H]
   exact ⟨(by first | rfl | (simp [IntKind.wrap_u32]; done)), HS.out⟩
  ·replace H := if_no c00 H
   have c00b0 : ((l00.length : Int) == 0) = false := beq_eq_false_iff_ne.mpr c00
   have c00b1 : ((l00.length : Int) != 0) = true := bne_iff_ne.mpr c00
   clear c00
   go_wp2_with fail
   refine start_ (n := 16) (S := (fun w' => Kd.C (Kd.int .i64) w' A00 l00.length l00)) (ds := []) #[false, false, false, false, false, false, false, false, false, false, false, false, false, false, false, false] (by kernel_rfl) rfl rfl (Rd.read (fun _ _ _ _ h => h) HR00.out (HS.out.drew).fr) (fun hHeld => ?_)
   have HS_ := Aside0.mk HS.out.drew
   clear HS
   generalize World.drew _ = w00 at HS_ hHeld ⊢
   have HS := HS_
   clear HS_
   refine pure_ (i := 0) (N := some 8) (v := ?_) (a' := ?_) #[true, false, false, false, false, false, false, false, false, false, false, false, false, false, false, false] rfl rfl (by kernel_rfl) (fun _ _ _ h => h) (Or.inl ⟨by rfl, ?_⟩) ?_ ?_
   rotate_left
   ·intro w'
    go_simp
    with_reducible rfl
   rotate_left
   ·simp only [Act.put, List.setIfInBounds_toArray, List.set_cons_zero, List.set_cons_succ, i64_w, i32_w]
    rfl
   by_cases c01 : 0 < (l00.length : Int)
   ·replace H := if_yes c01 H
    have c01b0 : decide (0 < (l00.length : Int)) = true := decide_eq_true c01
    have c01b1 : decide (0 < l00.length) = true := decide_eq_true (by omega)
    have c01p : (0 < (l00.length : Int)) = True := eq_true c01
    have c01n : (0 < l00.length) = True := eq_true (by omega)
    clear c01
    obtain ⟨ad00, ea, _⟩ := Kd.at_int (Rd.read (fun _ _ _ _ h => h) HR00.out HS.out.fr) 0 (by decide) (of_decide_eq_true c01b0)
    cases ea
    refine pure_ (i := 1) (N := some 9) (v := ?_) (a' := ?_) #[true, true, false, false, false, false, false, false, false, false, false, false, false, false, false, false] rfl rfl (by kernel_rfl) (fun _ _ _ h => h) (Or.inl ⟨by rfl, ?_⟩) ?_ ?_
    rotate_left
    ·intro w'
     go_simp
     with_reducible rfl
    rotate_left
    ·simp only [Act.put, List.setIfInBounds_toArray, List.set_cons_zero, List.set_cons_succ, i64_w, i32_w]
     rfl
    refine pure_ (i := 4) (N := some 12) (v := ?_) (a' := ?_) #[true, true, false, false, true, false, false, false, false, false, false, false, false, false, false, false] rfl rfl (by kernel_rfl) (fun _ _ _ h => h) (Or.inl ⟨by rfl, ?_⟩) ?_ ?_
    rotate_left
    ·intro w'
     go_simp
     with_reducible rfl
    rotate_left
    ·simp only [Act.put, List.setIfInBounds_toArray, List.set_cons_zero, List.set_cons_succ, i64_w, i32_w]
     rfl
    refine pure_ (i := 5) (N := some 13) (v := ?_) (a' := ?_) #[true, true, false, false, true, true, false, false, false, false, false, false, false, false, false, false] rfl rfl (by kernel_rfl) (fun _ _ _ h => h) (Or.inl ⟨by rfl, ?_⟩) ?_ ?_
    rotate_left
    ·intro w'
     go_simp
     with_reducible rfl
    rotate_left
    ·simp only [Act.put, List.setIfInBounds_toArray, List.set_cons_zero, List.set_cons_succ, i64_w, i32_w]
     rfl
    refine pure_ (i := 6) (N := some 14) (v := ?_) (a' := ?_) #[true, true, false, false, true, true, true, false, false, false, false, false, false, false, false, false] rfl rfl (by kernel_rfl) (fun _ _ _ h => h) (Or.inl ⟨by rfl, ?_⟩) ?_ ?_
    rotate_left
    ·intro w'
     go_simp
     with_reducible rfl
    rotate_left
    ·simp only [Act.put, List.setIfInBounds_toArray, List.set_cons_zero, List.set_cons_succ, i64_w, i32_w]
     rfl
    refine pure_ (i := 7) (N := some 15) (v := ?_) (a' := ?_) #[true, true, false, false, true, true, true, true, false, false, false, false, false, false, false, false] rfl rfl (by kernel_rfl) (fun _ _ _ h => h) (Or.inl ⟨by rfl, ?_⟩) ?_ ?_
    rotate_left
    ·intro w'
     go_simp
     with_reducible rfl
    rotate_left
    ·simp only [Act.put, List.setIfInBounds_toArray, List.set_cons_zero, List.set_cons_succ, i64_w, i32_w]
     rfl
    by_cases c02 : 0 ≤ (wrap64 ((l00.length : Int) - 1))
    ·replace H := if_yes c02 H
     have c02b0 : decide (0 ≤ (wrap64 ((l00.length : Int) - 1))) = true := decide_eq_true c02
     have c02p : (0 ≤ (wrap64 ((l00.length : Int) - 1))) = True := eq_true c02
     clear c02
     by_cases c03 : (wrap64 ((l00.length : Int) - 1)) < (l00.length : Int)
     ·replace H := if_yes c03 H
      have c03b0 : decide ((wrap64 ((l00.length : Int) - 1)) < (l00.length : Int)) = true := decide_eq_true c03
      have c03p : ((wrap64 ((l00.length : Int) - 1)) < (l00.length : Int)) = True := eq_true c03
      clear c03
      refine pure_ (i := 8) (N := some 16) (v := ?_) (a' := ?_) #[true, true, false, false, true, true, true, true, true, false, false, false, false, false, false, false] rfl rfl (by kernel_rfl) (fun _ _ _ h => h) (Or.inl ⟨by rfl, ?_⟩) ?_ ?_
      rotate_left
      ·intro w'
       go_simp
       with_reducible rfl
      rotate_left
      ·simp only [Act.put, List.setIfInBounds_toArray, List.set_cons_zero, List.set_cons_succ, i64_w, i32_w]
       rfl
      refine pure_ (i := 11) (N := some 19) (v := ?_) (a' := ?_) #[true, true, false, false, true, true, true, true, true, false, false, true, false, false, false, false] rfl rfl (by kernel_rfl) (fun _ _ _ h => h) (Or.inl ⟨by rfl, ?_⟩) ?_ ?_
      rotate_left
      ·intro w'
       go_simp
       with_reducible rfl
      rotate_left
      ·simp only [Act.put, List.setIfInBounds_toArray, List.set_cons_zero, List.set_cons_succ, i64_w, i32_w]
       rfl
      refine pure_ (i := 12) (N := some 20) (v := ?_) (a' := ?_) #[true, true, false, false, true, true, true, true, true, false, false, true, true, false, false, false] rfl rfl (by kernel_rfl) (fun _ _ _ h => h) (Or.inl ⟨by rfl, ?_⟩) ?_ ?_
      rotate_left
      ·intro w'
       go_simp
       with_reducible rfl
      rotate_left
      ·simp only [Act.put, List.setIfInBounds_toArray, List.set_cons_zero, List.set_cons_succ, i64_w, i32_w]
       rfl
      refine take_ (i := 2) (N := some 10) (v := ?_) (a' := ?_) #[true, true, true, false, true, true, true, true, true, false, false, true, true, false, false, false] rfl rfl (by kernel_rfl) (fun _ _ _ h => h) (Or.inl ⟨by rfl, ?_⟩) hHeld ?_ ?_
      rotate_left
      ·rintro w' hS'
       have s0 := hS'
       have hx := C_at_int s0 0 (by decide) (of_decide_eq_true c01b0)
       have hx0 : w'.cell? ad00 = some (.int .i64 (rd l00 0)) := hx
       go_simp
       with_reducible rfl
      rotate_left
      ·simp only [Act.put, List.setIfInBounds_toArray, List.set_cons_zero, List.set_cons_succ, i64_w, i32_w]
       rfl
      refine pure_ (i := 3) (N := some 11) (v := ?_) (a' := ?_) #[true, true, true, true, true, true, true, true, true, false, false, true, true, false, false, false] rfl rfl (by kernel_rfl) (fun _ _ _ h => h) (Or.inl ⟨by rfl, ?_⟩) ?_ ?_
      rotate_left
      ·intro w'
       go_simp
       with_reducible rfl
      rotate_left
      ·simp only [Act.put, List.setIfInBounds_toArray, List.set_cons_zero, List.set_cons_succ, i64_w, i32_w]
       rfl
      refine pure_ (i := 13) (N := some 2) (v := ?_) (a' := ?_) #[true, true, true, true, true, true, true, true, true, false, false, true, true, true, false, false] rfl rfl (by kernel_rfl) (fun _ _ _ h => h) (Or.inl ⟨by rfl, ?_⟩) ?_ ?_
      rotate_left
      ·intro w'
       go_simp
       with_reducible rfl
      rotate_left
      ·simp only [Act.put, List.setIfInBounds_toArray, List.set_cons_zero, List.set_cons_succ, i64_w, i32_w]
       rfl
      refine take_ (i := 9) (N := some 17) (v := ?_) (a' := ?_) #[true, true, true, true, true, true, true, true, true, true, false, true, true, true, false, false] rfl rfl (by kernel_rfl) (fun _ _ _ h => h) (Or.inl ⟨by rfl, ?_⟩) hHeld ?_ ?_
      rotate_left
      ·rintro w' hS'
       have s0 := hS'
       have hx := C_at_int s0 (wrap64 ((l00.length : Int) - 1)) (of_decide_eq_true c02b0) (of_decide_eq_true c03b0)
       go_simp
       with_reducible rfl
      rotate_left
      ·simp only [Act.put, List.setIfInBounds_toArray, List.set_cons_zero, List.set_cons_succ, i64_w, i32_w]
       rfl
      refine pure_ (i := 10) (N := some 18) (v := ?_) (a' := ?_) #[true, true, true, true, true, true, true, true, true, true, true, true, true, true, false, false] rfl rfl (by kernel_rfl) (fun _ _ _ h => h) (Or.inl ⟨by rfl, ?_⟩) ?_ ?_
      rotate_left
      ·intro w'
       go_simp
       with_reducible rfl
      rotate_left
      ·simp only [Act.put, List.setIfInBounds_toArray, List.set_cons_zero, List.set_cons_succ, i64_w, i32_w]
       rfl
      refine pure_ (i := 14) (N := some 3) (v := ?_) (a' := ?_) #[true, true, true, true, true, true, true, true, true, true, true, true, true, true, true, false] rfl rfl (by kernel_rfl) (fun _ _ _ h => h) (Or.inl ⟨by rfl, ?_⟩) ?_ ?_
      rotate_left
      ·intro w'
       go_simp
       with_reducible rfl
      rotate_left
      ·simp only [Act.put, List.setIfInBounds_toArray, List.set_cons_zero, List.set_cons_succ, i64_w, i32_w]
       rfl
      refine pure_ (i := 15) (N := some 4) (v := ?_) (a' := ?_) #[true, true, true, true, true, true, true, true, true, true, true, true, true, true, true, true] rfl rfl (by kernel_rfl) (fun _ _ _ h => h) (Or.inl ⟨by rfl, ?_⟩) ?_ ?_
      rotate_left
      ·intro w'
       go_simp
       with_reducible rfl
      rotate_left
      ·simp only [Act.put, List.setIfInBounds_toArray, List.set_cons_zero, List.set_cons_succ, i64_w, i32_w]
       rfl
      refine done_ (by kernel_rfl) ?_
      go_wp2_with fail
      go_ret3
      rw [← some_eq H]
      exact ⟨(by first | rfl | (simp [IntKind.wrap_u32]; done)), HS.out⟩
     ·replace H := if_no c03 H
      have c03b0 : decide ((wrap64 ((l00.length : Int) - 1)) < (l00.length : Int)) = false := decide_eq_false c03
      clear c03
      exact (none_no H).elim
    ·replace H := if_no c02 H
     have c02b0 : decide (0 ≤ (wrap64 ((l00.length : Int) - 1))) = false := decide_eq_false c02
     clear c02
     exact (none_no H).elim
   ·replace H := if_no c01 H
    have c01b0 : decide (0 < (l00.length : Int)) = false := decide_eq_false c01
    have c01b1 : decide (0 < l00.length) = false := decide_eq_false (by omega)
    clear c01
    exact (none_no H).elim

set_option maxHeartbeats 30000000 in
set_option maxRecDepth 100000 in
theorem quitrentref08_Next.calls (l00 : List Int) (a00 : Int) (A00 : Option Addr) (n00 : Nat) (r : Int) (w : World) (HR00 : Aside0 (Rd (Kd.int .i64) (fps []) w A00 l00.length l00))  (HS : Aside0 (Sep (fps []) w [] w)) (H : Aside0 (quitrentref08_Next.f l00 a00 = some r)) :
    Calls Try.prog 99 #[.slice A00 l00.length n00, .int .i64 a00] w fun e w' => e = .returned (.int .i64 r) ∧ Sep (fps []) w [] w' := by
  unfold quitrentref08_Next.f at H
  go_enter Try.func99, Try.ntmps99
  by_cases c00 : (wrap64 (a00 + 1)) ≥ (l00.length : Int)
  ·replace H := if_yes c00 H
   have c00b0 : decide ((l00.length : Int) ≤ (wrap64 (a00 + 1))) = true := decide_eq_true c00
   clear c00
   go_wp2_with fail
   go_ret
   rw [← some_eq H]
   exact ⟨(by first | rfl | (simp [IntKind.wrap_u32]; done)), HS.out⟩
  ·replace H := if_no c00 H
   have c00b0 : decide ((l00.length : Int) ≤ (wrap64 (a00 + 1))) = false := decide_eq_false c00
   clear c00
   by_cases c01 : 0 ≤ (wrap64 (a00 + 1))
   ·replace H := if_yes c01 H
    have c01b0 : decide (0 ≤ (wrap64 (a00 + 1))) = true := decide_eq_true c01
    have c01p : (0 ≤ (wrap64 (a00 + 1))) = True := eq_true c01
    clear c01
    by_cases c02 : (wrap64 (a00 + 1)) < (l00.length : Int)
    ·replace H := if_yes c02 H
     have c02b0 : decide ((wrap64 (a00 + 1)) < (l00.length : Int)) = true := decide_eq_true c02
     have c02p : ((wrap64 (a00 + 1)) < (l00.length : Int)) = True := eq_true c02
     clear c02
     obtain ⟨hx00a, hx00e, hx00⟩ := Kd.at_int (Rd.read (fun _ _ _ _ h => h) HR00.out HS.out.fr) (wrap64 (a00 + 1)) (of_decide_eq_true c01b0) (of_decide_eq_true c02b0); cases hx00e
     go_wp2_with fail
     clear hx00
     go_ret
     rw [← some_eq H]
     exact ⟨(by first | rfl | (simp [IntKind.wrap_u32]; done)), HS.out⟩
    ·replace H := if_no c02 H
     have c02b0 : decide ((wrap64 (a00 + 1)) < (l00.length : Int)) = false := decide_eq_false c02
     clear c02
     exact (none_no H).elim
   ·replace H := if_no c01 H
    have c01b0 : decide (0 ≤ (wrap64 (a00 + 1))) = false := decide_eq_false c01
    clear c01
    exact (none_no H).elim

set_option maxHeartbeats 30000000 in
set_option maxRecDepth 100000 in
theorem quitrentlaw08_stands.calls (k : Nat) (l00 : List Int) (a00 : Int) (a01 : Int) (a02 : Int) (a03 : Int) (a04 : Int) (a05 : Int) (l01 : List Int) (g00 : Nat) (g01 : Nat) (A00 : Option Addr) (m00 : Nat) (n00 : Nat) (A01 : Option Addr) (n01 : Nat) (r : Bool) (w : World) (HR00 : Aside0 (Rd (Kd.int .i64) (fps [b7 g00 g01 a01 a02 a03 a04, b6 g01 A00 m00 n00 a00, r5 A00 m00 n00 l00]) w A01 l01.length l01))  (HS : Aside0 (Sep (fps [b7 g00 g01 a01 a02 a03 a04, b6 g01 A00 m00 n00 a00, r5 A00 m00 n00 l00]) w [b7 g00 g01 a01 a02 a03 a04, b6 g01 A00 m00 n00 a00, r5 A00 m00 n00 l00] w)) (H : Aside0 (quitrentlaw08_stands.f k l00 a00 a01 a02 a03 a04 a05 l01 = some r)) :
    Calls Try.prog 59 #[.pointer (some ⟨g00, 0, none⟩), .int .i64 a05, .slice A01 l01.length n01] w fun e w' => e = .returned (.bool r) ∧ Sep (fps [b7 g00 g01 a01 a02 a03 a04, b6 g01 A00 m00 n00 a00, r5 A00 m00 n00 l00]) w [b7 g00 g01 a01 a02 a03 a04, b6 g01 A00 m00 n00 a00, r5 A00 m00 n00 l00] w' := by
  generalize (fps [b7 g00 g01 a01 a02 a03 a04, b6 g01 A00 m00 n00 a00, r5 A00 m00 n00 l00]) = FF at HS HR00 ⊢
  obtain rfl := (row_len (HS.out.at2)).symm
  unfold quitrentlaw08_stands.f at H
  go_enter Try.func59, Try.ntmps59
  go_wp2_with fail
  obtain ⟨t00, HA00, H⟩ := bind_some H
  refine (quitrentref08_Ends.calls l01 A01 n01 t00 _ ⟨Rd.pass (l := []) (by decide) (fun _ _ _ _ h => h) HR00.out HS.out⟩ ⟨Sep.start _⟩ HA00).mono ?_
  rintro e_ w00 ⟨rfl, hS⟩
  replace HS : Aside0 (Sep FF w [b7 g00 g01 a01 a02 a03 a04, b6 g01 A00 l00.length n00 a00, r5 A00 l00.length n00 l00] w00) := ⟨HS.out.call hS⟩
  clear hS
  go_wp2_with fail
  obtain ⟨t01, HA01, H⟩ := bind_some H
  refine (ground_Ground_SeeReg.calls l00 a00 a01 a02 a03 a04 (wrap64 (3 * a05)) g00 g01 A00 l00.length n00 t01 _ ⟨HS.out.begin⟩ HA01).mono ?_
  rintro e_ w01 ⟨rfl, hS⟩
  replace HS : Aside0 (Sep FF w [b7 g00 g01 a01 a02 a03 a04, b6 g01 A00 l00.length n00 a00, r5 A00 l00.length n00 l00] w01) := ⟨HS.out.call hS⟩
  clear hS
  by_cases c00 : t01 = t00.1
  ·replace H := if_yes c00 H
   have c00b0 : (t01 == t00.1) = true := beq_iff_eq.mpr c00
   have c00b1 : (t01 != t00.1) = false := bne_eq_false_iff_eq.mpr c00
   clear c00
   go_wp2_with fail
   obtain ⟨t02, HA02, H⟩ := bind_some H
   refine (ground_Ground_SeeReg.calls l00 a00 a01 a02 a03 a04 (wrap64 ((wrap64 (3 * a05)) + 1)) g00 g01 A00 l00.length n00 t02 _ ⟨HS.out.begin⟩ HA02).mono ?_
   rintro e_ w02 ⟨rfl, hS⟩
   replace HS : Aside0 (Sep FF w [b7 g00 g01 a01 a02 a03 a04, b6 g01 A00 l00.length n00 a00, r5 A00 l00.length n00 l00] w02) := ⟨HS.out.call hS⟩
   clear hS
   by_cases c01 : t02 = t00.2.1
   ·replace H := if_yes c01 H
    have c01b0 : (t02 == t00.2.1) = true := beq_iff_eq.mpr c01
    have c01b1 : (t02 != t00.2.1) = false := bne_eq_false_iff_eq.mpr c01
    clear c01
    go_wp2_with fail
    obtain ⟨t03, HA03, H⟩ := bind_some H
    refine (ground_Ground_SeeReg.calls l00 a00 a01 a02 a03 a04 (wrap64 ((wrap64 (3 * a05)) + 2)) g00 g01 A00 l00.length n00 t03 _ ⟨HS.out.begin⟩ HA03).mono ?_
    rintro e_ w03 ⟨rfl, hS⟩
    replace HS : Aside0 (Sep FF w [b7 g00 g01 a01 a02 a03 a04, b6 g01 A00 l00.length n00 a00, r5 A00 l00.length n00 l00] w03) := ⟨HS.out.call hS⟩
    clear hS
    by_cases c02 : t03 = t00.2.2
    ·replace H := if_yes c02 H
     have c02b0 : (t03 == t00.2.2) = true := beq_iff_eq.mpr c02
     have c02b1 : (t03 != t00.2.2) = false := bne_eq_false_iff_eq.mpr c02
     clear c02
     go_wp2_with fail
     obtain ⟨o00, AL00, H⟩ := bind_some H
     go_loopg [44] k (fun kq v44 wc => ∃ (x00 : Int), v44 = .int .i64 x00 ∧ Aside0 (quitrentlaw08_stands.lo0 kq l00 a00 a01 a02 a03 a04 l01 x00 = some o00) ∧ Aside0 (Sep FF w [b7 g00 g01 a01 a02 a03 a04, b6 g01 A00 l00.length n00 a00, r5 A00 l00.length n00 l00] wc))
     case atStart => exact ⟨(0), (by first | rfl | (simp [IntKind.wrap_u32]; done)), AL00, ⟨HS.out⟩⟩
     case round =>
       clear AL00 HS
       obtain ⟨x00, rfl, AL00, HS⟩ := hrel
       obtain ⟨w04, rfl⟩ : ∃ x : World, x = wr := ⟨_, rfl⟩
       cases gk with
       | zero => exact absurd AL00.out (by simp [quitrentlaw08_stands.lo0])
       | succ k00 =>
         have AL0 := AL00.out
         rw [quitrentlaw08_stands.lo0] at AL0
         clear AL00
         have AL00 := Aside0.mk AL0
         clear AL0
         by_cases c03 : x00 < (l01.length : Int)
         ·replace AL00 := if_yes c03 AL00
          have c03b0 : decide (x00 < (l01.length : Int)) = true := decide_eq_true c03
          clear c03
          by_cases c04 : 0 ≤ x00
          ·replace AL00 := if_yes c04 AL00
           have c04b0 : decide (0 ≤ x00) = true := decide_eq_true c04
           have c04p : (0 ≤ x00) = True := eq_true c04
           clear c04
           have ip00 : (x00 < (l01.length : Int)) = True := eq_true (of_decide_eq_true c03b0)
           obtain ⟨hx00a, hx00e, hx00⟩ := Kd.at_int (Rd.read (fun _ _ _ _ h => h) HR00.out HS.out.fr) x00 (of_decide_eq_true c04b0) (of_decide_eq_true c03b0); cases hx00e
           go_wp2_with fail
           clear hx00
           obtain ⟨t04, HA04, AL00⟩ := bind_some AL00
           refine (ground_Ground_SeeWord.calls l00 a00 a01 a02 a03 a04 (rd l01 x00) 5 g00 g01 A00 l00.length n00 t04 _ ⟨HS.out.begin⟩ HA04).mono ?_
           rintro e_ w05 ⟨rfl, hS⟩
           replace HS : Aside0 (Sep FF w [b7 g00 g01 a01 a02 a03 a04, b6 g01 A00 l00.length n00 a00, r5 A00 l00.length n00 l00] w05) := ⟨HS.out.call hS⟩
           clear hS
           go_wp2_with fail
           obtain ⟨t05, HA05, AL00⟩ := bind_some AL00
           refine (quitrentref08_Next.calls l01 x00 (some hx00a) n01 t05 _ ⟨Rd.pass (l := []) (by decide) (fun _ _ _ _ h => h) HR00.out HS.out⟩ ⟨Sep.start _⟩ HA05).mono ?_
           rintro e_ w06 ⟨rfl, hS⟩
           replace HS : Aside0 (Sep FF w [b7 g00 g01 a01 a02 a03 a04, b6 g01 A00 l00.length n00 a00, r5 A00 l00.length n00 l00] w06) := ⟨HS.out.call hS⟩
           clear hS
           by_cases c05 : (wrap64 (t04)) = t05
           ·replace AL00 := if_yes c05 AL00
            have c05b0 : ((wrap64 (t04)) == t05) = true := beq_iff_eq.mpr c05
            have c05b1 : ((wrap64 (t04)) != t05) = false := bne_eq_false_iff_eq.mpr c05
            clear c05
            go_wp2_with fail
            go_roundg k00
            case measure => exact Nat.lt_succ_self _
            case rel => exact ⟨(wrap64 (x00 + 1)), (by first | rfl | (simp [IntKind.wrap_u32]; done)), Aside0.mk AL00.out, ⟨HS.out⟩⟩
           ·replace AL00 := if_no c05 AL00
            have c05b0 : ((wrap64 (t04)) == t05) = false := beq_eq_false_iff_ne.mpr c05
            have c05b1 : ((wrap64 (t04)) != t05) = true := bne_iff_ne.mpr c05
            clear c05
            go_wp2_with fail
            have ho := some_eq AL00
            subst ho
            have H := lp_ret H
            go_ret
            rw [← some_eq H]
            exact ⟨(by first | rfl | (simp [IntKind.wrap_u32]; done)), HS.out⟩
          ·replace AL00 := if_no c04 AL00
           have c04b0 : decide (0 ≤ x00) = false := decide_eq_false c04
           clear c04
           exact (none_no AL00).elim
         ·replace AL00 := if_no c03 AL00
          have c03b0 : decide (x00 < (l01.length : Int)) = false := decide_eq_false c03
          clear c03
          have ho := some_eq AL00
          subst ho
          clear AL00
          have H := lp_out H
          go_wp2_with fail
          go_ret
          rw [← some_eq H]
          exact ⟨(by first | rfl | (simp [IntKind.wrap_u32]; done)), HS.out⟩
    ·replace H := if_no c02 H
     have c02b0 : (t03 == t00.2.2) = false := beq_eq_false_iff_ne.mpr c02
     have c02b1 : (t03 != t00.2.2) = true := bne_iff_ne.mpr c02
     clear c02
     go_wp2_with fail
     go_ret
     rw [← some_eq H]
     exact ⟨(by first | rfl | (simp [IntKind.wrap_u32]; done)), HS.out⟩
   ·replace H := if_no c01 H
    have c01b0 : (t02 == t00.2.1) = false := beq_eq_false_iff_ne.mpr c01
    have c01b1 : (t02 != t00.2.1) = true := bne_iff_ne.mpr c01
    clear c01
    go_wp2_with fail
    go_ret
    rw [← some_eq H]
    exact ⟨(by first | rfl | (simp [IntKind.wrap_u32]; done)), HS.out⟩
  ·replace H := if_no c00 H
   have c00b0 : (t01 == t00.1) = false := beq_eq_false_iff_ne.mpr c00
   have c00b1 : (t01 != t00.1) = true := bne_iff_ne.mpr c00
   clear c00
   go_wp2_with fail
   go_ret
   rw [← some_eq H]
   exact ⟨(by first | rfl | (simp [IntKind.wrap_u32]; done)), HS.out⟩

set_option maxHeartbeats 30000000 in
set_option maxRecDepth 100000 in
theorem quitrentlaw08_ChainPlays.calls (k : Nat) (a1 : Int) (a2 : Int) (a3 : Int) (a4 : Int) (l5 : List (Int × Int × Int)) (A6 : Option Addr) (n7 : Nat) (r : Bool) (w : World) (HR8 : Aside0 (Rd s15 (fps []) w A6 l5.length l5))  (HS : Aside0 (Sep (fps []) w [] w)) (H : Aside0 (quitrentlaw08_ChainPlays.f k a1 a2 a3 a4 l5 = some r)) :
    Calls Try.prog 13 #[.agg #[.int .i64 a1, .int .i64 a2, .int .i64 a3, .int .i64 a4], .slice A6 l5.length n7] w fun e w' => e = .returned (.bool r) ∧ Sep (fps []) w [] w' := by
  unfold quitrentlaw08_ChainPlays.f at H
  go_enter Try.func13, Try.ntmps13
  go_wp2_with (first | ((with_reducible refine gate_dst (N := 2) rfl ?_); refine box_on ?hg (N := 2) ?hd (cs := #[.int .i64 a1, .int .i64 a2, .int .i64 a3, .int .i64 a4]) (t := 49) ?hr ?_; (case hd => rfl); (case hg => rfl); (case hr => first | (go_simp; done) | (go_simp; rfl)); intro g9 hg w10 hbox hb; replace HS : Aside0 (Sep (fps []) w [b1 g9 a1 a2 a3 a4] w10) := ⟨HS.out.box hg hbox hb⟩; clear hg hbox hb; have hc12 : w10.cell? ⟨g9, 0, none⟩ = some (.int .i64 a1) := blk_cellv (HS.out.at0) 0 rfl; have hc13 : w10.cell? ⟨g9, 1, none⟩ = some (.int .i64 a2) := blk_cellv (HS.out.at0) 1 rfl; have hc14 : w10.cell? ⟨g9, 2, none⟩ = some (.int .i64 a3) := blk_cellv (HS.out.at0) 2 rfl; have hc15 : w10.cell? ⟨g9, 3, none⟩ = some (.int .i64 a4) := blk_cellv (HS.out.at0) 3 rfl))
  clear hc12 hc13 hc14 hc15
  obtain ⟨t00, HA00, H⟩ := bind_some H
  rcases t00 with t01 | (t02 | t03)
  ·have H := sum_l H
   refine (ground_New.calls _ a1 a2 a3 a4 (.inl t01) _ ⟨Sep.start _⟩ HA00).mono ?_
   rintro e_ w00 ⟨rfl, hS⟩
   replace HS : Aside0 (Sep (fps []) w [b1 g9 a1 a2 a3 a4] w00) := ⟨HS.out.call hS⟩
   clear hS
   have hc00 : w00.cell? ⟨g9, 0, none⟩ = some (.int .i64 a1) := blk_cellv (HS.out.at0) 0 rfl
   have hc01 : w00.cell? ⟨g9, 1, none⟩ = some (.int .i64 a2) := blk_cellv (HS.out.at0) 1 rfl
   have hc02 : w00.cell? ⟨g9, 2, none⟩ = some (.int .i64 a3) := blk_cellv (HS.out.at0) 2 rfl
   have hc03 : w00.cell? ⟨g9, 3, none⟩ = some (.int .i64 a4) := blk_cellv (HS.out.at0) 3 rfl
   go_wp2_with fail
   clear hc00 hc01 hc02 hc03
   obtain ⟨t04, HA01, H⟩ := bind_some H
   refine (quitrentref03_May.calls a1 a2 a3 a4 t04 _ ⟨Sep.start _⟩ HA01).mono ?_
   rintro e_ w01 ⟨rfl, hS⟩
   replace HS : Aside0 (Sep (fps []) w [b1 g9 a1 a2 a3 a4] w01) := ⟨HS.out.call hS⟩
   clear hS
   by_cases c00 : t04 = true
   ·replace H := if_yes c00 H
    have c00b0 : t04 = true := c00
    have c00b1 : (!t04) = false := by rw [c00b0]; rfl
    try rw [c00b1]
    clear c00
    have hc04 : w01.cell? ⟨g9, 0, none⟩ = some (.int .i64 a1) := blk_cellv (HS.out.at0) 0 rfl
    have hc05 : w01.cell? ⟨g9, 1, none⟩ = some (.int .i64 a2) := blk_cellv (HS.out.at0) 1 rfl
    have hc06 : w01.cell? ⟨g9, 2, none⟩ = some (.int .i64 a3) := blk_cellv (HS.out.at0) 2 rfl
    have hc07 : w01.cell? ⟨g9, 3, none⟩ = some (.int .i64 a4) := blk_cellv (HS.out.at0) 3 rfl
    go_wp2_with fail
    clear hc04 hc05 hc06 hc07
    obtain ⟨t05, HA02, H⟩ := bind_some H
    refine (quitrentref05_Little.calls a1 a2 a3 a4 t05 _ ⟨Sep.start _⟩ HA02).mono ?_
    rintro e_ w02 ⟨rfl, hS⟩
    replace HS : Aside0 (Sep (fps []) w [b1 g9 a1 a2 a3 a4] w02) := ⟨HS.out.call hS⟩
    clear hS
    by_cases c01 : t05 = true
    ·replace H := if_yes c01 H
     have c01b0 : t05 = true := c01
     have c01b1 : (!t05) = false := by rw [c01b0]; rfl
     try rw [c01b1]
     clear c01
     by_cases c02 : (l5.length : Int) > 200
     ·replace H := if_yes c02 H
      have c02b0 : decide (200 < (l5.length : Int)) = true := decide_eq_true c02
      have c02b1 : decide (200 < l5.length) = true := decide_eq_true (by omega)
      clear c02
      replace HS : Aside0 (Sep (fps []) w [] w02) := ⟨HS.out.sub (.cons _ .slnil)⟩
      go_wp2_with fail
      obtain ⟨t06, HA03, H⟩ := bind_some H
      refine (quitrentlaw08_begun.calls _ t06 _ ⟨Sep.start _⟩ HA03).mono ?_
      rintro e_ w03 ⟨rfl, hS⟩
      replace HS : Aside0 (Sep (fps []) w [] w03) := ⟨HS.out.call hS⟩
      clear hS
      go_wp2_with fail
      go_ret
      rw [← some_eq H]
      exact ⟨(by first | rfl | (simp [IntKind.wrap_u32]; done)), HS.out⟩
     ·replace H := if_no c02 H
      have c02b0 : decide (200 < (l5.length : Int)) = false := decide_eq_false c02
      have c02b1 : decide (200 < l5.length) = false := decide_eq_false (by omega)
      clear c02
      replace HS : Aside0 (Sep (fps []) w [] w02) := ⟨HS.out.sub (.cons _ .slnil)⟩
      go_wp2_with fail
      go_ret
      rw [← some_eq H]
      exact ⟨(by first | rfl | (simp [IntKind.wrap_u32]; done)), HS.out⟩
    ·replace H := if_no c01 H
     have c01b0 : t05 = false := by simpa using c01
     have c01b1 : (!t05) = true := by rw [c01b0]; rfl
     try rw [c01b1]
     clear c01
     replace HS : Aside0 (Sep (fps []) w [] w02) := ⟨HS.out.sub (.cons _ .slnil)⟩
     go_wp2_with fail
     obtain ⟨t06, HA04, H⟩ := bind_some H
     refine (quitrentlaw08_begun.calls _ t06 _ ⟨Sep.start _⟩ HA04).mono ?_
     rintro e_ w04 ⟨rfl, hS⟩
     replace HS : Aside0 (Sep (fps []) w [] w04) := ⟨HS.out.call hS⟩
     clear hS
     go_wp2_with fail
     go_ret
     rw [← some_eq H]
     exact ⟨(by first | rfl | (simp [IntKind.wrap_u32]; done)), HS.out⟩
   ·replace H := if_no c00 H
    have c00b0 : t04 = false := by simpa using c00
    have c00b1 : (!t04) = true := by rw [c00b0]; rfl
    try rw [c00b1]
    clear c00
    replace HS : Aside0 (Sep (fps []) w [] w01) := ⟨HS.out.sub (.cons _ .slnil)⟩
    go_wp2_with fail
    obtain ⟨t06, HA05, H⟩ := bind_some H
    refine (quitrentlaw08_begun.calls _ t06 _ ⟨Sep.start _⟩ HA05).mono ?_
    rintro e_ w05 ⟨rfl, hS⟩
    replace HS : Aside0 (Sep (fps []) w [] w05) := ⟨HS.out.call hS⟩
    clear hS
    go_wp2_with fail
    go_ret
    rw [← some_eq H]
    exact ⟨(by first | rfl | (simp [IntKind.wrap_u32]; done)), HS.out⟩
  ·have H := sum_r H
   have H := sum_l H
   refine (ground_New.calls _ a1 a2 a3 a4 (.inr (.inl t02)) _ ⟨Sep.start _⟩ HA00).mono ?_
   rintro e_ w06 ⟨g00, rfl, g01, A00, m00, n00, hS⟩
   replace HS : Aside0 (Sep (fps []) w [b7 g00 g01 t02.1 t02.2.1 t02.2.2.1 t02.2.2.2.1, b6 g01 A00 m00 n00 0, r5 A00 m00 n00 t02.2.2.2.2, b1 g9 a1 a2 a3 a4] w06) := ⟨HS.out.call hS⟩
   clear hS
   obtain rfl := (row_len (HS.out.at2)).symm
   have hc08 : w06.cell? ⟨g9, 0, none⟩ = some (.int .i64 a1) := blk_cellv (HS.out.at3) 0 rfl
   have hc09 : w06.cell? ⟨g9, 1, none⟩ = some (.int .i64 a2) := blk_cellv (HS.out.at3) 1 rfl
   have hc10 : w06.cell? ⟨g9, 2, none⟩ = some (.int .i64 a3) := blk_cellv (HS.out.at3) 2 rfl
   have hc11 : w06.cell? ⟨g9, 3, none⟩ = some (.int .i64 a4) := blk_cellv (HS.out.at3) 3 rfl
   go_wp2_with fail
   clear hc08 hc09 hc10 hc11
   obtain ⟨t04, HA06, H⟩ := bind_some H
   refine (quitrentref03_May.calls a1 a2 a3 a4 t04 _ ⟨Sep.start _⟩ HA06).mono ?_
   rintro e_ w07 ⟨rfl, hS⟩
   replace HS : Aside0 (Sep (fps []) w [b7 g00 g01 t02.1 t02.2.1 t02.2.2.1 t02.2.2.2.1, b6 g01 A00 ((t02.2.2.2.2).length) n00 0, r5 A00 ((t02.2.2.2.2).length) n00 t02.2.2.2.2, b1 g9 a1 a2 a3 a4] w07) := ⟨HS.out.call hS⟩
   clear hS
   by_cases c03 : t04 = true
   ·replace H := if_yes c03 H
    have c03b0 : t04 = true := c03
    have c03b1 : (!t04) = false := by rw [c03b0]; rfl
    try rw [c03b1]
    clear c03
    have hc16 : w07.cell? ⟨g9, 0, none⟩ = some (.int .i64 a1) := blk_cellv (HS.out.at3) 0 rfl
    have hc17 : w07.cell? ⟨g9, 1, none⟩ = some (.int .i64 a2) := blk_cellv (HS.out.at3) 1 rfl
    have hc18 : w07.cell? ⟨g9, 2, none⟩ = some (.int .i64 a3) := blk_cellv (HS.out.at3) 2 rfl
    have hc19 : w07.cell? ⟨g9, 3, none⟩ = some (.int .i64 a4) := blk_cellv (HS.out.at3) 3 rfl
    go_wp2_with fail
    clear hc16 hc17 hc18 hc19
    obtain ⟨t05, HA07, H⟩ := bind_some H
    refine (quitrentref05_Little.calls a1 a2 a3 a4 t05 _ ⟨Sep.start _⟩ HA07).mono ?_
    rintro e_ w08 ⟨rfl, hS⟩
    replace HS : Aside0 (Sep (fps []) w [b7 g00 g01 t02.1 t02.2.1 t02.2.2.1 t02.2.2.2.1, b6 g01 A00 ((t02.2.2.2.2).length) n00 0, r5 A00 ((t02.2.2.2.2).length) n00 t02.2.2.2.2, b1 g9 a1 a2 a3 a4] w08) := ⟨HS.out.call hS⟩
    clear hS
    by_cases c04 : t05 = true
    ·replace H := if_yes c04 H
     have c04b0 : t05 = true := c04
     have c04b1 : (!t05) = false := by rw [c04b0]; rfl
     try rw [c04b1]
     clear c04
     by_cases c05 : (l5.length : Int) > 200
     ·replace H := if_yes c05 H
      have c05b0 : decide (200 < (l5.length : Int)) = true := decide_eq_true c05
      have c05b1 : decide (200 < l5.length) = true := decide_eq_true (by omega)
      clear c05
      replace HS : Aside0 (Sep (fps []) w [b7 g00 g01 t02.1 t02.2.1 t02.2.2.1 t02.2.2.2.1, b6 g01 A00 ((t02.2.2.2.2).length) n00 0, r5 A00 ((t02.2.2.2.2).length) n00 t02.2.2.2.2] w08) := ⟨HS.out.sub (.cons_cons _ (.cons_cons _ (.cons_cons _ (.cons _ .slnil))))⟩
      go_wp2_with fail
      obtain ⟨t06, HA08, H⟩ := bind_some H
      refine (quitrentlaw08_begun.calls _ t06 _ ⟨Sep.start _⟩ HA08).mono ?_
      rintro e_ w09 ⟨rfl, hS⟩
      replace HS : Aside0 (Sep (fps []) w [b7 g00 g01 t02.1 t02.2.1 t02.2.2.1 t02.2.2.2.1, b6 g01 A00 ((t02.2.2.2.2).length) n00 0, r5 A00 ((t02.2.2.2.2).length) n00 t02.2.2.2.2] w09) := ⟨HS.out.call hS⟩
      clear hS
      replace HS : Aside0 (Sep (fps []) w [] w09) := ⟨HS.out.sub (.cons _ (.cons _ (.cons _ .slnil)))⟩
      go_wp2_with fail
      go_ret
      rw [← some_eq H]
      exact ⟨(by first | rfl | (simp [IntKind.wrap_u32]; done)), HS.out⟩
     ·replace H := if_no c05 H
      have c05b0 : decide (200 < (l5.length : Int)) = false := decide_eq_false c05
      have c05b1 : decide (200 < l5.length) = false := decide_eq_false (by omega)
      clear c05
      replace HS : Aside0 (Sep (fps []) w [b7 g00 g01 t02.1 t02.2.1 t02.2.2.1 t02.2.2.2.1, b6 g01 A00 ((t02.2.2.2.2).length) n00 0, r5 A00 ((t02.2.2.2.2).length) n00 t02.2.2.2.2] w08) := ⟨HS.out.sub (.cons_cons _ (.cons_cons _ (.cons_cons _ (.cons _ .slnil))))⟩
      go_wp2_with (first | ((with_reducible refine gate_dst (N := 32) rfl ?_); refine box_on ?hg (N := 32) ?hd (cs := #[.slice none 0 0, .slice none 0 0]) (t := 84) ?hr ?_; (case hd => rfl); (case hg => rfl); (case hr => first | (go_simp; done) | (go_simp; rfl)); intro g02 hg w11 hbox hb; replace HS : Aside0 (Sep (fps []) w [b7 g00 g01 t02.1 t02.2.1 t02.2.2.1 t02.2.2.2.1, b6 g01 A00 ((t02.2.2.2.2).length) n00 0, r5 A00 ((t02.2.2.2.2).length) n00 t02.2.2.2.2, b12 g02] w11) := ⟨HS.out.box hg hbox hb⟩; clear hg hbox hb; replace HS : Aside0 (Sep (fps []) w [r11 none 0 0 [], b7 g00 g01 t02.1 t02.2.1 t02.2.2.1 t02.2.2.2.1, b6 g01 A00 ((t02.2.2.2.2).length) n00 0, r5 A00 ((t02.2.2.2.2).length) n00 t02.2.2.2.2, b13 g02 none 0 0] w11) := ⟨HS.out.nilrow 3 (Value.int .i64)⟩; replace HS : Aside0 (Sep (fps []) w [r11 none 0 0 [], r11 none 0 0 [], b7 g00 g01 t02.1 t02.2.1 t02.2.2.1 t02.2.2.2.1, b6 g01 A00 ((t02.2.2.2.2).length) n00 0, r5 A00 ((t02.2.2.2.2).length) n00 t02.2.2.2.2, b14 g02 none 0 0 none 0 0] w11) := ⟨HS.out.nilrow 3 (Value.int .i64)⟩))
      obtain ⟨o00, AL00, H⟩ := bind_some H
      go_loopg [35] k (fun kq v35 wc => ∃ (x00 : Int) (x01 : List Int) (x02 : List Int) (x03 : List Int) (x04 : Int) (A01 : Option Addr) (m01 : Nat) (n01 : Nat) (A02 : Option Addr) (m02 : Nat) (n02 : Nat), v35 = .int .i64 x00 ∧ Aside0 (quitrentlaw08_ChainPlays.lo0 kq l5 t02 x00 x01 x02 x03 x04 = some o00) ∧ Aside0 (Sep (fps []) w [r11 A01 m01 n01 x01, r11 A02 m02 n02 x02, b7 g00 g01 t02.1 t02.2.1 t02.2.2.1 t02.2.2.2.1, b6 g01 A00 ((t02.2.2.2.2).length) n00 x04, r5 A00 ((t02.2.2.2.2).length) n00 x03, b14 g02 A02 m02 n02 A01 m01 n01] wc))
      case atStart => exact ⟨(0), (([] : List Int)), (([] : List Int)), (t02.2.2.2.2), (0), (none), (0), (0), (none), (0), (0), (by first | rfl | (simp [IntKind.wrap_u32]; done)), AL00, ⟨HS.out⟩⟩
      case round =>
        clear AL00 HS
        obtain ⟨x00, x01, x02, x03, x04, A01, m01, n01, A02, m02, n02, rfl, AL00, HS⟩ := hrel
        obtain ⟨w12, rfl⟩ : ∃ x : World, x = wr := ⟨_, rfl⟩
        obtain rfl := (row_len (HS.out.at0)).symm
        obtain rfl := (row_len (HS.out.at1)).symm
        cases gk with
        | zero => exact absurd AL00.out (by simp [quitrentlaw08_ChainPlays.lo0])
        | succ k00 =>
          have AL0 := AL00.out
          rw [quitrentlaw08_ChainPlays.lo0] at AL0
          clear AL00
          have AL00 := Aside0.mk AL0
          clear AL0
          by_cases c06 : x00 < (l5.length : Int)
          ·replace AL00 := if_yes c06 AL00
           have c06b0 : decide (x00 < (l5.length : Int)) = true := decide_eq_true c06
           clear c06
           by_cases c07 : 0 ≤ x00
           ·replace AL00 := if_yes c07 AL00
            have c07b0 : decide (0 ≤ x00) = true := decide_eq_true c07
            have c07p : (0 ≤ x00) = True := eq_true c07
            clear c07
            have ip00 : (x00 < (l5.length : Int)) = True := eq_true (of_decide_eq_true c06b0)
            obtain ⟨hx00a, hx00e, hx01, hx02, hx03⟩ := s15_at HR8.out HS.out.fr x00 (of_decide_eq_true c07b0) (of_decide_eq_true c06b0); cases hx00e
            go_wp2_with (first | ((with_reducible refine gate_dst (N := 9) rfl ?_); refine box_on ?hg (N := 9) ?hd (cs := #[.int .u8 0, .int .i64 0, .int .i64 0]) (t := 86) ?hr ?_; (case hd => rfl); (case hg => rfl); (case hr => first | (go_simp; done) | (go_simp; rfl)); intro g03 hg w13 hbox hb; clear hx01 hx02 hx03; replace HS : Aside0 (Sep (fps []) w [r11 A01 x01.length n01 x01, r11 A02 x02.length n02 x02, b7 g00 g01 t02.1 t02.2.1 t02.2.2.1 t02.2.2.2.1, b6 g01 A00 ((t02.2.2.2.2).length) n00 x04, r5 A00 ((t02.2.2.2.2).length) n00 x03, b14 g02 A02 x02.length n02 A01 x01.length n01, b16 g03 0 0 0] w13) := ⟨HS.out.box hg hbox hb⟩; clear hg hbox hb; have hc20 : w13.cell? ⟨g03, 0, none⟩ = some (.int .u8 0) := blk_cellv (HS.out.at6) 0 rfl; have hz00 : w13.frozen? ⟨g03, 0, none⟩ = false := blk_fz (HS.out.at6) 0; have hc21 : w13.cell? ⟨g03, 1, none⟩ = some (.int .i64 0) := blk_cellv (HS.out.at6) 1 rfl; have hz01 : w13.frozen? ⟨g03, 1, none⟩ = false := blk_fz (HS.out.at6) 1; have hc22 : w13.cell? ⟨g03, 2, none⟩ = some (.int .i64 0) := blk_cellv (HS.out.at6) 2 rfl; have hz02 : w13.frozen? ⟨g03, 2, none⟩ = false := blk_fz (HS.out.at6) 2) | ((with_reducible refine gate_store (t := 86) (p := 9) rfl ?_); refine store_event (w1 := (World.setCell (World.setCell (World.setCell w13 ⟨g03, 0, none⟩ (.int .u8 ((rdOf (0, 0, 0) l5 x00).1))) ⟨g03, 1, none⟩ (.int .i64 ((rdOf (0, 0, 0) l5 x00).2.1))) ⟨g03, 2, none⟩ (.int .i64 ((rdOf (0, 0, 0) l5 x00).2.2)))) rfl (t := 86) (p := 9) rfl rfl ?hr ?_; (case hr => first | (go_simp; done) | (go_simp; rfl)); intro w14 hst; clear hc20 hz00 hc21 hz01 hc22 hz02; replace HS : Aside0 (Sep (fps []) w [r11 A01 x01.length n01 x01, r11 A02 x02.length n02 x02, b7 g00 g01 t02.1 t02.2.1 t02.2.2.1 t02.2.2.2.1, b6 g01 A00 ((t02.2.2.2.2).length) n00 x04, r5 A00 ((t02.2.2.2.2).length) n00 x03, b14 g02 A02 x02.length n02 A01 x01.length n01, b16 g03 ((rdOf (0, 0, 0) l5 x00).1) ((rdOf (0, 0, 0) l5 x00).2.1) ((rdOf (0, 0, 0) l5 x00).2.2)] w14) := ⟨by rw [hst]; exact HS.out.setAll (l1 := [r11 A01 x01.length n01 x01, r11 A02 x02.length n02 x02, b7 g00 g01 t02.1 t02.2.1 t02.2.2.1 t02.2.2.2.1, b6 g01 A00 ((t02.2.2.2.2).length) n00 x04, r5 A00 ((t02.2.2.2.2).length) n00 x03, b14 g02 A02 x02.length n02 A01 x01.length n01]) (l2 := []) [.int .u8 ((rdOf (0, 0, 0) l5 x00).1), .int .i64 ((rdOf (0, 0, 0) l5 x00).2.1), .int .i64 ((rdOf (0, 0, 0) l5 x00).2.2)] rfl⟩; clear hst; have hc23 : w14.cell? ⟨g03, 0, none⟩ = some (.int .u8 ((rdOf (0, 0, 0) l5 x00).1)) := blk_cellv (HS.out.at6) 0 rfl; have hc24 : w14.cell? ⟨g03, 1, none⟩ = some (.int .i64 ((rdOf (0, 0, 0) l5 x00).2.1)) := blk_cellv (HS.out.at6) 1 rfl; have hc25 : w14.cell? ⟨g03, 2, none⟩ = some (.int .i64 ((rdOf (0, 0, 0) l5 x00).2.2)) := blk_cellv (HS.out.at6) 2 rfl))
            clear hc23 hc24 hc25
            replace HS : Aside0 (Sep (fps []) w [b7 g00 g01 t02.1 t02.2.1 t02.2.2.1 t02.2.2.2.1, b6 g01 A00 ((t02.2.2.2.2).length) n00 x04, r5 A00 ((t02.2.2.2.2).length) n00 x03, b14 g02 A02 x02.length n02 A01 x01.length n01, r11 A02 x02.length n02 x02, r11 A01 x01.length n01 x01, b16 g03 ((rdOf (0, 0, 0) l5 x00).1) ((rdOf (0, 0, 0) l5 x00).2.1) ((rdOf (0, 0, 0) l5 x00).2.2)] w14) := ⟨(((((HS.out).front 1 (by simp)).front 5 (by simp)).front 5 (by simp)).front 5 (by simp)).front 5 (by simp)⟩
            obtain ⟨t07, HA09, AL00⟩ := bind_some AL00
            rcases t07 with t08 | (t09 | t10)
            ·have AL00 := sum_l AL00
             refine (quitrentlaw08_do.calls _ x03 x04 t02.1 t02.2.1 t02.2.2.1 t02.2.2.2.1 x02 x01 ((rdOf (0, 0, 0) l5 x00).1) ((rdOf (0, 0, 0) l5 x00).2.1) ((rdOf (0, 0, 0) l5 x00).2.2) g00 g01 A00 ((t02.2.2.2.2).length) n00 g02 A02 x02.length n02 A01 x01.length n01 (.inl t08) _ ⟨HS.out.begin⟩ HA09).mono ?_
             rintro e_ w15 ⟨rfl, hS⟩
             replace HS : Aside0 (Sep (fps []) w [b7 g00 g01 t02.1 t02.2.1 t02.2.2.1 t02.2.2.2.1, b6 g01 A00 ((t02.2.2.2.2).length) n00 t08.2.1, r5 A00 ((t02.2.2.2.2).length) n00 t08.2.2, b14 g02 A02 x02.length n02 A01 x01.length n01, r11 A02 x02.length n02 x02, r11 A01 x01.length n01 x01, b16 g03 ((rdOf (0, 0, 0) l5 x00).1) ((rdOf (0, 0, 0) l5 x00).2.1) ((rdOf (0, 0, 0) l5 x00).2.2)] w15) := ⟨HS.out.call hS⟩
             clear hS
             by_cases c08 : t08.1 = true
             ·replace AL00 := if_yes c08 AL00
              have c08b0 : t08.1 = true := c08
              have c08b1 : (!t08.1) = false := by rw [c08b0]; rfl
              try rw [c08b1]
              clear c08
              have hc26 : w15.cell? ⟨g02, 0, none⟩ = some (.slice A02 x02.length n02) := blk_cellv (HS.out.at3) 0 rfl
              go_wp2_with fail
              clear hc26
              obtain ⟨t11, HA10, AL00⟩ := bind_some AL00
              refine (quitrentlaw08_stands.calls _ t08.2.2 t08.2.1 t02.1 t02.2.1 t02.2.2.1 t02.2.2.2.1 0 x02 g00 g01 A00 ((t02.2.2.2.2).length) n00 A02 n02 t11 _ ⟨Rd.ownI  HS.out 1 rfl⟩ ⟨HS.out.begin⟩ HA10).mono ?_
              rintro e_ w16 ⟨rfl, hS⟩
              replace HS : Aside0 (Sep (fps []) w [b7 g00 g01 t02.1 t02.2.1 t02.2.2.1 t02.2.2.2.1, b6 g01 A00 ((t02.2.2.2.2).length) n00 t08.2.1, r5 A00 ((t02.2.2.2.2).length) n00 t08.2.2, b14 g02 A02 x02.length n02 A01 x01.length n01, r11 A02 x02.length n02 x02, r11 A01 x01.length n01 x01, b16 g03 ((rdOf (0, 0, 0) l5 x00).1) ((rdOf (0, 0, 0) l5 x00).2.1) ((rdOf (0, 0, 0) l5 x00).2.2)] w16) := ⟨HS.out.call hS⟩
              clear hS
              by_cases c09 : t11 = true
              ·replace AL00 := if_yes c09 AL00
               have c09b0 : t11 = true := c09
               have c09b1 : (!t11) = false := by rw [c09b0]; rfl
               try rw [c09b1]
               clear c09
               have hc27 : w16.cell? ⟨g02, 1, none⟩ = some (.slice A01 x01.length n01) := blk_cellv (HS.out.at3) 1 rfl
               go_wp2_with fail
               clear hc27
               obtain ⟨t12, HA11, AL00⟩ := bind_some AL00
               refine (quitrentlaw08_stands.calls _ t08.2.2 t08.2.1 t02.1 t02.2.1 t02.2.2.1 t02.2.2.2.1 1 x01 g00 g01 A00 ((t02.2.2.2.2).length) n00 A01 n01 t12 _ ⟨Rd.ownI  HS.out 2 rfl⟩ ⟨HS.out.begin⟩ HA11).mono ?_
               rintro e_ w17 ⟨rfl, hS⟩
               replace HS : Aside0 (Sep (fps []) w [b7 g00 g01 t02.1 t02.2.1 t02.2.2.1 t02.2.2.2.1, b6 g01 A00 ((t02.2.2.2.2).length) n00 t08.2.1, r5 A00 ((t02.2.2.2.2).length) n00 t08.2.2, b14 g02 A02 x02.length n02 A01 x01.length n01, r11 A02 x02.length n02 x02, r11 A01 x01.length n01 x01, b16 g03 ((rdOf (0, 0, 0) l5 x00).1) ((rdOf (0, 0, 0) l5 x00).2.1) ((rdOf (0, 0, 0) l5 x00).2.2)] w17) := ⟨HS.out.call hS⟩
               clear hS
               by_cases c10 : t12 = true
               ·replace AL00 := if_yes c10 AL00
                have c10b0 : t12 = true := c10
                have c10b1 : (!t12) = false := by rw [c10b0]; rfl
                try rw [c10b1]
                clear c10
                replace HS : Aside0 (Sep (fps []) w [b7 g00 g01 t02.1 t02.2.1 t02.2.2.1 t02.2.2.2.1, b6 g01 A00 ((t02.2.2.2.2).length) n00 t08.2.1, r5 A00 ((t02.2.2.2.2).length) n00 t08.2.2, b14 g02 A02 x02.length n02 A01 x01.length n01, r11 A02 x02.length n02 x02, r11 A01 x01.length n01 x01] w17) := ⟨HS.out.sub (.cons_cons _ (.cons_cons _ (.cons_cons _ (.cons_cons _ (.cons_cons _ (.cons_cons _ (.cons _ .slnil)))))))⟩
                go_wp2_with fail
                go_roundg k00
                case measure => exact Nat.lt_succ_self _
                case rel => exact ⟨(wrap64 (x00 + 1)), (x01), (x02), (t08.2.2), (t08.2.1), (A01), (x01.length), (n01), (A02), (x02.length), (n02), (by first | rfl | (simp [IntKind.wrap_u32]; done)), Aside0.mk AL00.out, ⟨(((((((HS.out).front 3 (by simp)).front 3 (by simp)).front 3 (by simp)).front 3 (by simp)).front 4 (by simp)).front 5 (by simp)).keep (l := [r11 A01 x01.length n01 x01, r11 A02 x02.length n02 x02, b7 g00 g01 t02.1 t02.2.1 t02.2.2.1 t02.2.2.2.1, b6 g01 A00 ((t02.2.2.2.2).length) n00 t08.2.1, r5 A00 ((t02.2.2.2.2).length) n00 t08.2.2, b14 g02 A02 x02.length n02 A01 x01.length n01]) (rest := [])⟩⟩
               ·replace AL00 := if_no c10 AL00
                have c10b0 : t12 = false := by simpa using c10
                have c10b1 : (!t12) = true := by rw [c10b0]; rfl
                try rw [c10b1]
                clear c10
                replace HS : Aside0 (Sep (fps []) w [b7 g00 g01 t02.1 t02.2.1 t02.2.2.1 t02.2.2.2.1, b6 g01 A00 ((t02.2.2.2.2).length) n00 t08.2.1, r5 A00 ((t02.2.2.2.2).length) n00 t08.2.2, b14 g02 A02 x02.length n02 A01 x01.length n01, r11 A02 x02.length n02 x02, r11 A01 x01.length n01 x01] w17) := ⟨HS.out.sub (.cons_cons _ (.cons_cons _ (.cons_cons _ (.cons_cons _ (.cons_cons _ (.cons_cons _ (.cons _ .slnil)))))))⟩
                go_wp2_with fail
                have ho := some_eq AL00
                subst ho
                have H := lp_ret H
                go_ret
                rw [← some_eq H]
                exact ⟨(by first | rfl | (simp [IntKind.wrap_u32]; done)), HS.out.sub (.cons _ (.cons _ (.cons _ (.cons _ (.cons _ (.cons _ .slnil))))))⟩
              ·replace AL00 := if_no c09 AL00
               have c09b0 : t11 = false := by simpa using c09
               have c09b1 : (!t11) = true := by rw [c09b0]; rfl
               try rw [c09b1]
               clear c09
               replace HS : Aside0 (Sep (fps []) w [b7 g00 g01 t02.1 t02.2.1 t02.2.2.1 t02.2.2.2.1, b6 g01 A00 ((t02.2.2.2.2).length) n00 t08.2.1, r5 A00 ((t02.2.2.2.2).length) n00 t08.2.2, b14 g02 A02 x02.length n02 A01 x01.length n01, r11 A02 x02.length n02 x02, r11 A01 x01.length n01 x01] w16) := ⟨HS.out.sub (.cons_cons _ (.cons_cons _ (.cons_cons _ (.cons_cons _ (.cons_cons _ (.cons_cons _ (.cons _ .slnil)))))))⟩
               go_wp2_with fail
               have ho := some_eq AL00
               subst ho
               have H := lp_ret H
               go_ret
               rw [← some_eq H]
               exact ⟨(by first | rfl | (simp [IntKind.wrap_u32]; done)), HS.out.sub (.cons _ (.cons _ (.cons _ (.cons _ (.cons _ (.cons _ .slnil))))))⟩
             ·replace AL00 := if_no c08 AL00
              have c08b0 : t08.1 = false := by simpa using c08
              have c08b1 : (!t08.1) = true := by rw [c08b0]; rfl
              try rw [c08b1]
              clear c08
              replace HS : Aside0 (Sep (fps []) w [b7 g00 g01 t02.1 t02.2.1 t02.2.2.1 t02.2.2.2.1, b6 g01 A00 ((t02.2.2.2.2).length) n00 t08.2.1, r5 A00 ((t02.2.2.2.2).length) n00 t08.2.2, b14 g02 A02 x02.length n02 A01 x01.length n01, r11 A02 x02.length n02 x02, r11 A01 x01.length n01 x01] w15) := ⟨HS.out.sub (.cons_cons _ (.cons_cons _ (.cons_cons _ (.cons_cons _ (.cons_cons _ (.cons_cons _ (.cons _ .slnil)))))))⟩
              go_wp2_with fail
              have ho := some_eq AL00
              subst ho
              have H := lp_ret H
              go_ret
              rw [← some_eq H]
              exact ⟨(by first | rfl | (simp [IntKind.wrap_u32]; done)), HS.out.sub (.cons _ (.cons _ (.cons _ (.cons _ (.cons _ (.cons _ .slnil))))))⟩
            ·have AL00 := sum_r AL00
             have AL00 := sum_l AL00
             refine (quitrentlaw08_do.calls _ x03 x04 t02.1 t02.2.1 t02.2.2.1 t02.2.2.2.1 x02 x01 ((rdOf (0, 0, 0) l5 x00).1) ((rdOf (0, 0, 0) l5 x00).2.1) ((rdOf (0, 0, 0) l5 x00).2.2) g00 g01 A00 ((t02.2.2.2.2).length) n00 g02 A02 x02.length n02 A01 x01.length n01 (.inr (.inl t09)) _ ⟨HS.out.begin⟩ HA09).mono ?_
             rintro e_ w18 ⟨rfl, A03, m03, n03, hS⟩
             replace HS : Aside0 (Sep (fps []) w [b7 g00 g01 t02.1 t02.2.1 t02.2.2.1 t02.2.2.2.1, b6 g01 A00 ((t02.2.2.2.2).length) n00 t09.2.1, r5 A00 ((t02.2.2.2.2).length) n00 t09.2.2.1, b14 g02 A03 m03 n03 A01 x01.length n01, r11 A02 x02.length n02 x02, r11 A01 x01.length n01 x01, r11 A03 m03 n03 t09.2.2.2, b16 g03 ((rdOf (0, 0, 0) l5 x00).1) ((rdOf (0, 0, 0) l5 x00).2.1) ((rdOf (0, 0, 0) l5 x00).2.2)] w18) := ⟨HS.out.call hS⟩
             clear hS
             obtain rfl := (row_len (HS.out.at6)).symm
             by_cases c11 : t09.1 = true
             ·replace AL00 := if_yes c11 AL00
              have c11b0 : t09.1 = true := c11
              have c11b1 : (!t09.1) = false := by rw [c11b0]; rfl
              try rw [c11b1]
              clear c11
              have hc28 : w18.cell? ⟨g02, 0, none⟩ = some (.slice A03 ((t09.2.2.2).length) n03) := blk_cellv (HS.out.at3) 0 rfl
              go_wp2_with fail
              clear hc28
              obtain ⟨t11, HA12, AL00⟩ := bind_some AL00
              refine (quitrentlaw08_stands.calls _ t09.2.2.1 t09.2.1 t02.1 t02.2.1 t02.2.2.1 t02.2.2.2.1 0 t09.2.2.2 g00 g01 A00 ((t02.2.2.2.2).length) n00 A03 n03 t11 _ ⟨Rd.ownI  HS.out 3 rfl⟩ ⟨HS.out.begin⟩ HA12).mono ?_
              rintro e_ w19 ⟨rfl, hS⟩
              replace HS : Aside0 (Sep (fps []) w [b7 g00 g01 t02.1 t02.2.1 t02.2.2.1 t02.2.2.2.1, b6 g01 A00 ((t02.2.2.2.2).length) n00 t09.2.1, r5 A00 ((t02.2.2.2.2).length) n00 t09.2.2.1, b14 g02 A03 ((t09.2.2.2).length) n03 A01 x01.length n01, r11 A02 x02.length n02 x02, r11 A01 x01.length n01 x01, r11 A03 ((t09.2.2.2).length) n03 t09.2.2.2, b16 g03 ((rdOf (0, 0, 0) l5 x00).1) ((rdOf (0, 0, 0) l5 x00).2.1) ((rdOf (0, 0, 0) l5 x00).2.2)] w19) := ⟨HS.out.call hS⟩
              clear hS
              by_cases c12 : t11 = true
              ·replace AL00 := if_yes c12 AL00
               have c12b0 : t11 = true := c12
               have c12b1 : (!t11) = false := by rw [c12b0]; rfl
               try rw [c12b1]
               clear c12
               have hc29 : w19.cell? ⟨g02, 1, none⟩ = some (.slice A01 x01.length n01) := blk_cellv (HS.out.at3) 1 rfl
               go_wp2_with fail
               clear hc29
               obtain ⟨t12, HA13, AL00⟩ := bind_some AL00
               refine (quitrentlaw08_stands.calls _ t09.2.2.1 t09.2.1 t02.1 t02.2.1 t02.2.2.1 t02.2.2.2.1 1 x01 g00 g01 A00 ((t02.2.2.2.2).length) n00 A01 n01 t12 _ ⟨Rd.ownI  HS.out 2 rfl⟩ ⟨HS.out.begin⟩ HA13).mono ?_
               rintro e_ w20 ⟨rfl, hS⟩
               replace HS : Aside0 (Sep (fps []) w [b7 g00 g01 t02.1 t02.2.1 t02.2.2.1 t02.2.2.2.1, b6 g01 A00 ((t02.2.2.2.2).length) n00 t09.2.1, r5 A00 ((t02.2.2.2.2).length) n00 t09.2.2.1, b14 g02 A03 ((t09.2.2.2).length) n03 A01 x01.length n01, r11 A02 x02.length n02 x02, r11 A01 x01.length n01 x01, r11 A03 ((t09.2.2.2).length) n03 t09.2.2.2, b16 g03 ((rdOf (0, 0, 0) l5 x00).1) ((rdOf (0, 0, 0) l5 x00).2.1) ((rdOf (0, 0, 0) l5 x00).2.2)] w20) := ⟨HS.out.call hS⟩
               clear hS
               by_cases c13 : t12 = true
               ·replace AL00 := if_yes c13 AL00
                have c13b0 : t12 = true := c13
                have c13b1 : (!t12) = false := by rw [c13b0]; rfl
                try rw [c13b1]
                clear c13
                replace HS : Aside0 (Sep (fps []) w [b7 g00 g01 t02.1 t02.2.1 t02.2.2.1 t02.2.2.2.1, b6 g01 A00 ((t02.2.2.2.2).length) n00 t09.2.1, r5 A00 ((t02.2.2.2.2).length) n00 t09.2.2.1, b14 g02 A03 ((t09.2.2.2).length) n03 A01 x01.length n01, r11 A02 x02.length n02 x02, r11 A01 x01.length n01 x01, r11 A03 ((t09.2.2.2).length) n03 t09.2.2.2] w20) := ⟨HS.out.sub (.cons_cons _ (.cons_cons _ (.cons_cons _ (.cons_cons _ (.cons_cons _ (.cons_cons _ (.cons_cons _ (.cons _ .slnil))))))))⟩
                go_wp2_with fail
                go_roundg k00
                case measure => exact Nat.lt_succ_self _
                case rel => exact ⟨(wrap64 (x00 + 1)), (x01), (t09.2.2.2), (t09.2.2.1), (t09.2.1), (A01), (x01.length), (n01), (A03), (((t09.2.2.2).length)), (n03), (by first | rfl | (simp [IntKind.wrap_u32]; done)), Aside0.mk AL00.out, ⟨(((((((HS.out).front 3 (by simp)).front 3 (by simp)).front 3 (by simp)).front 3 (by simp)).front 6 (by simp)).front 6 (by simp)).keep (l := [r11 A01 x01.length n01 x01, r11 A03 ((t09.2.2.2).length) n03 t09.2.2.2, b7 g00 g01 t02.1 t02.2.1 t02.2.2.1 t02.2.2.2.1, b6 g01 A00 ((t02.2.2.2.2).length) n00 t09.2.1, r5 A00 ((t02.2.2.2.2).length) n00 t09.2.2.1, b14 g02 A03 ((t09.2.2.2).length) n03 A01 x01.length n01]) (rest := [r11 A02 x02.length n02 x02])⟩⟩
               ·replace AL00 := if_no c13 AL00
                have c13b0 : t12 = false := by simpa using c13
                have c13b1 : (!t12) = true := by rw [c13b0]; rfl
                try rw [c13b1]
                clear c13
                replace HS : Aside0 (Sep (fps []) w [b7 g00 g01 t02.1 t02.2.1 t02.2.2.1 t02.2.2.2.1, b6 g01 A00 ((t02.2.2.2.2).length) n00 t09.2.1, r5 A00 ((t02.2.2.2.2).length) n00 t09.2.2.1, b14 g02 A03 ((t09.2.2.2).length) n03 A01 x01.length n01, r11 A02 x02.length n02 x02, r11 A01 x01.length n01 x01, r11 A03 ((t09.2.2.2).length) n03 t09.2.2.2] w20) := ⟨HS.out.sub (.cons_cons _ (.cons_cons _ (.cons_cons _ (.cons_cons _ (.cons_cons _ (.cons_cons _ (.cons_cons _ (.cons _ .slnil))))))))⟩
                go_wp2_with fail
                have ho := some_eq AL00
                subst ho
                have H := lp_ret H
                go_ret
                rw [← some_eq H]
                exact ⟨(by first | rfl | (simp [IntKind.wrap_u32]; done)), HS.out.sub (.cons _ (.cons _ (.cons _ (.cons _ (.cons _ (.cons _ (.cons _ .slnil)))))))⟩
              ·replace AL00 := if_no c12 AL00
               have c12b0 : t11 = false := by simpa using c12
               have c12b1 : (!t11) = true := by rw [c12b0]; rfl
               try rw [c12b1]
               clear c12
               replace HS : Aside0 (Sep (fps []) w [b7 g00 g01 t02.1 t02.2.1 t02.2.2.1 t02.2.2.2.1, b6 g01 A00 ((t02.2.2.2.2).length) n00 t09.2.1, r5 A00 ((t02.2.2.2.2).length) n00 t09.2.2.1, b14 g02 A03 ((t09.2.2.2).length) n03 A01 x01.length n01, r11 A02 x02.length n02 x02, r11 A01 x01.length n01 x01, r11 A03 ((t09.2.2.2).length) n03 t09.2.2.2] w19) := ⟨HS.out.sub (.cons_cons _ (.cons_cons _ (.cons_cons _ (.cons_cons _ (.cons_cons _ (.cons_cons _ (.cons_cons _ (.cons _ .slnil))))))))⟩
               go_wp2_with fail
               have ho := some_eq AL00
               subst ho
               have H := lp_ret H
               go_ret
               rw [← some_eq H]
               exact ⟨(by first | rfl | (simp [IntKind.wrap_u32]; done)), HS.out.sub (.cons _ (.cons _ (.cons _ (.cons _ (.cons _ (.cons _ (.cons _ .slnil)))))))⟩
             ·replace AL00 := if_no c11 AL00
              have c11b0 : t09.1 = false := by simpa using c11
              have c11b1 : (!t09.1) = true := by rw [c11b0]; rfl
              try rw [c11b1]
              clear c11
              replace HS : Aside0 (Sep (fps []) w [b7 g00 g01 t02.1 t02.2.1 t02.2.2.1 t02.2.2.2.1, b6 g01 A00 ((t02.2.2.2.2).length) n00 t09.2.1, r5 A00 ((t02.2.2.2.2).length) n00 t09.2.2.1, b14 g02 A03 ((t09.2.2.2).length) n03 A01 x01.length n01, r11 A02 x02.length n02 x02, r11 A01 x01.length n01 x01, r11 A03 ((t09.2.2.2).length) n03 t09.2.2.2] w18) := ⟨HS.out.sub (.cons_cons _ (.cons_cons _ (.cons_cons _ (.cons_cons _ (.cons_cons _ (.cons_cons _ (.cons_cons _ (.cons _ .slnil))))))))⟩
              go_wp2_with fail
              have ho := some_eq AL00
              subst ho
              have H := lp_ret H
              go_ret
              rw [← some_eq H]
              exact ⟨(by first | rfl | (simp [IntKind.wrap_u32]; done)), HS.out.sub (.cons _ (.cons _ (.cons _ (.cons _ (.cons _ (.cons _ (.cons _ .slnil)))))))⟩
            ·have AL00 := sum_r AL00
             have AL00 := sum_r AL00
             refine (quitrentlaw08_do.calls _ x03 x04 t02.1 t02.2.1 t02.2.2.1 t02.2.2.2.1 x02 x01 ((rdOf (0, 0, 0) l5 x00).1) ((rdOf (0, 0, 0) l5 x00).2.1) ((rdOf (0, 0, 0) l5 x00).2.2) g00 g01 A00 ((t02.2.2.2.2).length) n00 g02 A02 x02.length n02 A01 x01.length n01 (.inr (.inr t10)) _ ⟨HS.out.begin⟩ HA09).mono ?_
             rintro e_ w21 ⟨rfl, A04, m04, n04, hS⟩
             replace HS : Aside0 (Sep (fps []) w [b7 g00 g01 t02.1 t02.2.1 t02.2.2.1 t02.2.2.2.1, b6 g01 A00 ((t02.2.2.2.2).length) n00 t10.2.1, r5 A00 ((t02.2.2.2.2).length) n00 t10.2.2.1, b14 g02 A02 x02.length n02 A04 m04 n04, r11 A02 x02.length n02 x02, r11 A01 x01.length n01 x01, r11 A04 m04 n04 t10.2.2.2, b16 g03 ((rdOf (0, 0, 0) l5 x00).1) ((rdOf (0, 0, 0) l5 x00).2.1) ((rdOf (0, 0, 0) l5 x00).2.2)] w21) := ⟨HS.out.call hS⟩
             clear hS
             obtain rfl := (row_len (HS.out.at6)).symm
             by_cases c14 : t10.1 = true
             ·replace AL00 := if_yes c14 AL00
              have c14b0 : t10.1 = true := c14
              have c14b1 : (!t10.1) = false := by rw [c14b0]; rfl
              try rw [c14b1]
              clear c14
              have hc30 : w21.cell? ⟨g02, 0, none⟩ = some (.slice A02 x02.length n02) := blk_cellv (HS.out.at3) 0 rfl
              go_wp2_with fail
              clear hc30
              obtain ⟨t11, HA14, AL00⟩ := bind_some AL00
              refine (quitrentlaw08_stands.calls _ t10.2.2.1 t10.2.1 t02.1 t02.2.1 t02.2.2.1 t02.2.2.2.1 0 x02 g00 g01 A00 ((t02.2.2.2.2).length) n00 A02 n02 t11 _ ⟨Rd.ownI  HS.out 1 rfl⟩ ⟨HS.out.begin⟩ HA14).mono ?_
              rintro e_ w22 ⟨rfl, hS⟩
              replace HS : Aside0 (Sep (fps []) w [b7 g00 g01 t02.1 t02.2.1 t02.2.2.1 t02.2.2.2.1, b6 g01 A00 ((t02.2.2.2.2).length) n00 t10.2.1, r5 A00 ((t02.2.2.2.2).length) n00 t10.2.2.1, b14 g02 A02 x02.length n02 A04 ((t10.2.2.2).length) n04, r11 A02 x02.length n02 x02, r11 A01 x01.length n01 x01, r11 A04 ((t10.2.2.2).length) n04 t10.2.2.2, b16 g03 ((rdOf (0, 0, 0) l5 x00).1) ((rdOf (0, 0, 0) l5 x00).2.1) ((rdOf (0, 0, 0) l5 x00).2.2)] w22) := ⟨HS.out.call hS⟩
              clear hS
              by_cases c15 : t11 = true
              ·replace AL00 := if_yes c15 AL00
               have c15b0 : t11 = true := c15
               have c15b1 : (!t11) = false := by rw [c15b0]; rfl
               try rw [c15b1]
               clear c15
               have hc31 : w22.cell? ⟨g02, 1, none⟩ = some (.slice A04 ((t10.2.2.2).length) n04) := blk_cellv (HS.out.at3) 1 rfl
               go_wp2_with fail
               clear hc31
               obtain ⟨t12, HA15, AL00⟩ := bind_some AL00
               refine (quitrentlaw08_stands.calls _ t10.2.2.1 t10.2.1 t02.1 t02.2.1 t02.2.2.1 t02.2.2.2.1 1 t10.2.2.2 g00 g01 A00 ((t02.2.2.2.2).length) n00 A04 n04 t12 _ ⟨Rd.ownI  HS.out 3 rfl⟩ ⟨HS.out.begin⟩ HA15).mono ?_
               rintro e_ w23 ⟨rfl, hS⟩
               replace HS : Aside0 (Sep (fps []) w [b7 g00 g01 t02.1 t02.2.1 t02.2.2.1 t02.2.2.2.1, b6 g01 A00 ((t02.2.2.2.2).length) n00 t10.2.1, r5 A00 ((t02.2.2.2.2).length) n00 t10.2.2.1, b14 g02 A02 x02.length n02 A04 ((t10.2.2.2).length) n04, r11 A02 x02.length n02 x02, r11 A01 x01.length n01 x01, r11 A04 ((t10.2.2.2).length) n04 t10.2.2.2, b16 g03 ((rdOf (0, 0, 0) l5 x00).1) ((rdOf (0, 0, 0) l5 x00).2.1) ((rdOf (0, 0, 0) l5 x00).2.2)] w23) := ⟨HS.out.call hS⟩
               clear hS
               by_cases c16 : t12 = true
               ·replace AL00 := if_yes c16 AL00
                have c16b0 : t12 = true := c16
                have c16b1 : (!t12) = false := by rw [c16b0]; rfl
                try rw [c16b1]
                clear c16
                replace HS : Aside0 (Sep (fps []) w [b7 g00 g01 t02.1 t02.2.1 t02.2.2.1 t02.2.2.2.1, b6 g01 A00 ((t02.2.2.2.2).length) n00 t10.2.1, r5 A00 ((t02.2.2.2.2).length) n00 t10.2.2.1, b14 g02 A02 x02.length n02 A04 ((t10.2.2.2).length) n04, r11 A02 x02.length n02 x02, r11 A01 x01.length n01 x01, r11 A04 ((t10.2.2.2).length) n04 t10.2.2.2] w23) := ⟨HS.out.sub (.cons_cons _ (.cons_cons _ (.cons_cons _ (.cons_cons _ (.cons_cons _ (.cons_cons _ (.cons_cons _ (.cons _ .slnil))))))))⟩
                go_wp2_with fail
                go_roundg k00
                case measure => exact Nat.lt_succ_self _
                case rel => exact ⟨(wrap64 (x00 + 1)), (t10.2.2.2), (x02), (t10.2.2.1), (t10.2.1), (A04), (((t10.2.2.2).length)), (n04), (A02), (x02.length), (n02), (by first | rfl | (simp [IntKind.wrap_u32]; done)), Aside0.mk AL00.out, ⟨(((((((HS.out).front 3 (by simp)).front 3 (by simp)).front 3 (by simp)).front 3 (by simp)).front 4 (by simp)).front 6 (by simp)).keep (l := [r11 A04 ((t10.2.2.2).length) n04 t10.2.2.2, r11 A02 x02.length n02 x02, b7 g00 g01 t02.1 t02.2.1 t02.2.2.1 t02.2.2.2.1, b6 g01 A00 ((t02.2.2.2.2).length) n00 t10.2.1, r5 A00 ((t02.2.2.2.2).length) n00 t10.2.2.1, b14 g02 A02 x02.length n02 A04 ((t10.2.2.2).length) n04]) (rest := [r11 A01 x01.length n01 x01])⟩⟩
               ·replace AL00 := if_no c16 AL00
                have c16b0 : t12 = false := by simpa using c16
                have c16b1 : (!t12) = true := by rw [c16b0]; rfl
                try rw [c16b1]
                clear c16
                replace HS : Aside0 (Sep (fps []) w [b7 g00 g01 t02.1 t02.2.1 t02.2.2.1 t02.2.2.2.1, b6 g01 A00 ((t02.2.2.2.2).length) n00 t10.2.1, r5 A00 ((t02.2.2.2.2).length) n00 t10.2.2.1, b14 g02 A02 x02.length n02 A04 ((t10.2.2.2).length) n04, r11 A02 x02.length n02 x02, r11 A01 x01.length n01 x01, r11 A04 ((t10.2.2.2).length) n04 t10.2.2.2] w23) := ⟨HS.out.sub (.cons_cons _ (.cons_cons _ (.cons_cons _ (.cons_cons _ (.cons_cons _ (.cons_cons _ (.cons_cons _ (.cons _ .slnil))))))))⟩
                go_wp2_with fail
                have ho := some_eq AL00
                subst ho
                have H := lp_ret H
                go_ret
                rw [← some_eq H]
                exact ⟨(by first | rfl | (simp [IntKind.wrap_u32]; done)), HS.out.sub (.cons _ (.cons _ (.cons _ (.cons _ (.cons _ (.cons _ (.cons _ .slnil)))))))⟩
              ·replace AL00 := if_no c15 AL00
               have c15b0 : t11 = false := by simpa using c15
               have c15b1 : (!t11) = true := by rw [c15b0]; rfl
               try rw [c15b1]
               clear c15
               replace HS : Aside0 (Sep (fps []) w [b7 g00 g01 t02.1 t02.2.1 t02.2.2.1 t02.2.2.2.1, b6 g01 A00 ((t02.2.2.2.2).length) n00 t10.2.1, r5 A00 ((t02.2.2.2.2).length) n00 t10.2.2.1, b14 g02 A02 x02.length n02 A04 ((t10.2.2.2).length) n04, r11 A02 x02.length n02 x02, r11 A01 x01.length n01 x01, r11 A04 ((t10.2.2.2).length) n04 t10.2.2.2] w22) := ⟨HS.out.sub (.cons_cons _ (.cons_cons _ (.cons_cons _ (.cons_cons _ (.cons_cons _ (.cons_cons _ (.cons_cons _ (.cons _ .slnil))))))))⟩
               go_wp2_with fail
               have ho := some_eq AL00
               subst ho
               have H := lp_ret H
               go_ret
               rw [← some_eq H]
               exact ⟨(by first | rfl | (simp [IntKind.wrap_u32]; done)), HS.out.sub (.cons _ (.cons _ (.cons _ (.cons _ (.cons _ (.cons _ (.cons _ .slnil)))))))⟩
             ·replace AL00 := if_no c14 AL00
              have c14b0 : t10.1 = false := by simpa using c14
              have c14b1 : (!t10.1) = true := by rw [c14b0]; rfl
              try rw [c14b1]
              clear c14
              replace HS : Aside0 (Sep (fps []) w [b7 g00 g01 t02.1 t02.2.1 t02.2.2.1 t02.2.2.2.1, b6 g01 A00 ((t02.2.2.2.2).length) n00 t10.2.1, r5 A00 ((t02.2.2.2.2).length) n00 t10.2.2.1, b14 g02 A02 x02.length n02 A04 ((t10.2.2.2).length) n04, r11 A02 x02.length n02 x02, r11 A01 x01.length n01 x01, r11 A04 ((t10.2.2.2).length) n04 t10.2.2.2] w21) := ⟨HS.out.sub (.cons_cons _ (.cons_cons _ (.cons_cons _ (.cons_cons _ (.cons_cons _ (.cons_cons _ (.cons_cons _ (.cons _ .slnil))))))))⟩
              go_wp2_with fail
              have ho := some_eq AL00
              subst ho
              have H := lp_ret H
              go_ret
              rw [← some_eq H]
              exact ⟨(by first | rfl | (simp [IntKind.wrap_u32]; done)), HS.out.sub (.cons _ (.cons _ (.cons _ (.cons _ (.cons _ (.cons _ (.cons _ .slnil)))))))⟩
           ·replace AL00 := if_no c07 AL00
            have c07b0 : decide (0 ≤ x00) = false := decide_eq_false c07
            clear c07
            exact (none_no AL00).elim
          ·replace AL00 := if_no c06 AL00
           have c06b0 : decide (x00 < (l5.length : Int)) = false := decide_eq_false c06
           clear c06
           have ho := some_eq AL00
           subst ho
           clear AL00
           have H := lp_out H
           go_wp2_with fail
           obtain ⟨t13, HA16, H⟩ := bind_some H
           refine (quitrentlaw08_begun.calls _ t13 _ ⟨Sep.start _⟩ HA16).mono ?_
           rintro e_ w24 ⟨rfl, hS⟩
           replace HS : Aside0 (Sep (fps []) w [r11 A01 x01.length n01 x01, r11 A02 x02.length n02 x02, b7 g00 g01 t02.1 t02.2.1 t02.2.2.1 t02.2.2.2.1, b6 g01 A00 ((t02.2.2.2.2).length) n00 x04, r5 A00 ((t02.2.2.2.2).length) n00 x03, b14 g02 A02 x02.length n02 A01 x01.length n01] w24) := ⟨HS.out.call hS⟩
           clear hS
           replace HS : Aside0 (Sep (fps []) w [] w24) := ⟨HS.out.sub (.cons _ (.cons _ (.cons _ (.cons _ (.cons _ (.cons _ .slnil))))))⟩
           go_wp2_with fail
           go_ret
           rw [← some_eq H]
           exact ⟨(by first | rfl | (simp [IntKind.wrap_u32]; done)), HS.out⟩
    ·replace H := if_no c04 H
     have c04b0 : t05 = false := by simpa using c04
     have c04b1 : (!t05) = true := by rw [c04b0]; rfl
     try rw [c04b1]
     clear c04
     replace HS : Aside0 (Sep (fps []) w [b7 g00 g01 t02.1 t02.2.1 t02.2.2.1 t02.2.2.2.1, b6 g01 A00 ((t02.2.2.2.2).length) n00 0, r5 A00 ((t02.2.2.2.2).length) n00 t02.2.2.2.2] w08) := ⟨HS.out.sub (.cons_cons _ (.cons_cons _ (.cons_cons _ (.cons _ .slnil))))⟩
     go_wp2_with fail
     obtain ⟨t06, HA17, H⟩ := bind_some H
     refine (quitrentlaw08_begun.calls _ t06 _ ⟨Sep.start _⟩ HA17).mono ?_
     rintro e_ w25 ⟨rfl, hS⟩
     replace HS : Aside0 (Sep (fps []) w [b7 g00 g01 t02.1 t02.2.1 t02.2.2.1 t02.2.2.2.1, b6 g01 A00 ((t02.2.2.2.2).length) n00 0, r5 A00 ((t02.2.2.2.2).length) n00 t02.2.2.2.2] w25) := ⟨HS.out.call hS⟩
     clear hS
     replace HS : Aside0 (Sep (fps []) w [] w25) := ⟨HS.out.sub (.cons _ (.cons _ (.cons _ .slnil)))⟩
     go_wp2_with fail
     go_ret
     rw [← some_eq H]
     exact ⟨(by first | rfl | (simp [IntKind.wrap_u32]; done)), HS.out⟩
   ·replace H := if_no c03 H
    have c03b0 : t04 = false := by simpa using c03
    have c03b1 : (!t04) = true := by rw [c03b0]; rfl
    try rw [c03b1]
    clear c03
    replace HS : Aside0 (Sep (fps []) w [b7 g00 g01 t02.1 t02.2.1 t02.2.2.1 t02.2.2.2.1, b6 g01 A00 ((t02.2.2.2.2).length) n00 0, r5 A00 ((t02.2.2.2.2).length) n00 t02.2.2.2.2] w07) := ⟨HS.out.sub (.cons_cons _ (.cons_cons _ (.cons_cons _ (.cons _ .slnil))))⟩
    go_wp2_with fail
    obtain ⟨t06, HA18, H⟩ := bind_some H
    refine (quitrentlaw08_begun.calls _ t06 _ ⟨Sep.start _⟩ HA18).mono ?_
    rintro e_ w26 ⟨rfl, hS⟩
    replace HS : Aside0 (Sep (fps []) w [b7 g00 g01 t02.1 t02.2.1 t02.2.2.1 t02.2.2.2.1, b6 g01 A00 ((t02.2.2.2.2).length) n00 0, r5 A00 ((t02.2.2.2.2).length) n00 t02.2.2.2.2] w26) := ⟨HS.out.call hS⟩
    clear hS
    replace HS : Aside0 (Sep (fps []) w [] w26) := ⟨HS.out.sub (.cons _ (.cons _ (.cons _ .slnil)))⟩
    go_wp2_with fail
    go_ret
    rw [← some_eq H]
    exact ⟨(by first | rfl | (simp [IntKind.wrap_u32]; done)), HS.out⟩
  ·have H := sum_r H
   have H := sum_r H
   refine (ground_New.calls _ a1 a2 a3 a4 (.inr (.inr t03)) _ ⟨Sep.start _⟩ HA00).mono ?_
   rintro e_ w27 ⟨rfl, hS⟩
   replace HS : Aside0 (Sep (fps []) w [b1 g9 a1 a2 a3 a4] w27) := ⟨HS.out.call hS⟩
   clear hS
   have hc32 : w27.cell? ⟨g9, 0, none⟩ = some (.int .i64 a1) := blk_cellv (HS.out.at0) 0 rfl
   have hc33 : w27.cell? ⟨g9, 1, none⟩ = some (.int .i64 a2) := blk_cellv (HS.out.at0) 1 rfl
   have hc34 : w27.cell? ⟨g9, 2, none⟩ = some (.int .i64 a3) := blk_cellv (HS.out.at0) 2 rfl
   have hc35 : w27.cell? ⟨g9, 3, none⟩ = some (.int .i64 a4) := blk_cellv (HS.out.at0) 3 rfl
   go_wp2_with fail
   clear hc32 hc33 hc34 hc35
   obtain ⟨t04, HA19, H⟩ := bind_some H
   refine (quitrentref03_May.calls a1 a2 a3 a4 t04 _ ⟨Sep.start _⟩ HA19).mono ?_
   rintro e_ w28 ⟨rfl, hS⟩
   replace HS : Aside0 (Sep (fps []) w [b1 g9 a1 a2 a3 a4] w28) := ⟨HS.out.call hS⟩
   clear hS
   by_cases c17 : t04 = true
   ·replace H := if_yes c17 H
    have c17b0 : t04 = true := c17
    have c17b1 : (!t04) = false := by rw [c17b0]; rfl
    try rw [c17b1]
    clear c17
    have hc36 : w28.cell? ⟨g9, 0, none⟩ = some (.int .i64 a1) := blk_cellv (HS.out.at0) 0 rfl
    have hc37 : w28.cell? ⟨g9, 1, none⟩ = some (.int .i64 a2) := blk_cellv (HS.out.at0) 1 rfl
    have hc38 : w28.cell? ⟨g9, 2, none⟩ = some (.int .i64 a3) := blk_cellv (HS.out.at0) 2 rfl
    have hc39 : w28.cell? ⟨g9, 3, none⟩ = some (.int .i64 a4) := blk_cellv (HS.out.at0) 3 rfl
    go_wp2_with fail
    clear hc36 hc37 hc38 hc39
    obtain ⟨t05, HA20, H⟩ := bind_some H
    refine (quitrentref05_Little.calls a1 a2 a3 a4 t05 _ ⟨Sep.start _⟩ HA20).mono ?_
    rintro e_ w29 ⟨rfl, hS⟩
    replace HS : Aside0 (Sep (fps []) w [b1 g9 a1 a2 a3 a4] w29) := ⟨HS.out.call hS⟩
    clear hS
    by_cases c18 : t05 = true
    ·replace H := if_yes c18 H
     have c18b0 : t05 = true := c18
     have c18b1 : (!t05) = false := by rw [c18b0]; rfl
     try rw [c18b1]
     clear c18
     by_cases c19 : (l5.length : Int) > 200
     ·replace H := if_yes c19 H
      have c19b0 : decide (200 < (l5.length : Int)) = true := decide_eq_true c19
      have c19b1 : decide (200 < l5.length) = true := decide_eq_true (by omega)
      clear c19
      replace HS : Aside0 (Sep (fps []) w [] w29) := ⟨HS.out.sub (.cons _ .slnil)⟩
      go_wp2_with fail
      obtain ⟨t06, HA21, H⟩ := bind_some H
      refine (quitrentlaw08_begun.calls _ t06 _ ⟨Sep.start _⟩ HA21).mono ?_
      rintro e_ w30 ⟨rfl, hS⟩
      replace HS : Aside0 (Sep (fps []) w [] w30) := ⟨HS.out.call hS⟩
      clear hS
      go_wp2_with fail
      go_ret
      rw [← some_eq H]
      exact ⟨(by first | rfl | (simp [IntKind.wrap_u32]; done)), HS.out⟩
     ·replace H := if_no c19 H
      have c19b0 : decide (200 < (l5.length : Int)) = false := decide_eq_false c19
      have c19b1 : decide (200 < l5.length) = false := decide_eq_false (by omega)
      clear c19
      by_cases c20 : t03 = 0
      ·replace H := if_yes c20 H
       have c20b0 : (t03 == 0) = true := beq_iff_eq.mpr c20
       have c20b1 : (t03 != 0) = false := bne_eq_false_iff_eq.mpr c20
       clear c20
       replace HS : Aside0 (Sep (fps []) w [] w29) := ⟨HS.out.sub (.cons _ .slnil)⟩
       go_wp2_with (first | ((with_reducible refine gate_dst (N := 32) rfl ?_); refine box_on ?hg (N := 32) ?hd (cs := #[.slice none 0 0, .slice none 0 0]) (t := 84) ?hr ?_; (case hd => rfl); (case hg => rfl); (case hr => first | (go_simp; done) | (go_simp; rfl)); intro g04 hg w31 hbox hb; replace HS : Aside0 (Sep (fps []) w [b12 g04] w31) := ⟨HS.out.box hg hbox hb⟩; clear hg hbox hb; replace HS : Aside0 (Sep (fps []) w [r11 none 0 0 [], b13 g04 none 0 0] w31) := ⟨HS.out.nilrow 3 (Value.int .i64)⟩; replace HS : Aside0 (Sep (fps []) w [r11 none 0 0 [], r11 none 0 0 [], b14 g04 none 0 0 none 0 0] w31) := ⟨HS.out.nilrow 3 (Value.int .i64)⟩))
       obtain ⟨o01, AL01, H⟩ := bind_some H
       go_loopg [35] k (fun kq v35 wc => ∃ (x05 : Int), v35 = .int .i64 x05 ∧ Aside0 (quitrentlaw08_ChainPlays.lo1 kq l5 x05 = some o01) ∧ Aside0 (Sep (fps []) w [r11 none 0 0 [], r11 none 0 0 [], b14 g04 none 0 0 none 0 0] wc))
       case atStart => exact ⟨(0), (by first | rfl | (simp [IntKind.wrap_u32]; done)), AL01, ⟨HS.out⟩⟩
       case round =>
         clear AL01 HS
         obtain ⟨x05, rfl, AL01, HS⟩ := hrel
         obtain ⟨w32, rfl⟩ : ∃ x : World, x = wr := ⟨_, rfl⟩
         cases gk with
         | zero => exact absurd AL01.out (by simp [quitrentlaw08_ChainPlays.lo1])
         | succ k01 =>
           have AL0 := AL01.out
           rw [quitrentlaw08_ChainPlays.lo1] at AL0
           clear AL01
           have AL01 := Aside0.mk AL0
           clear AL0
           by_cases c21 : x05 < (l5.length : Int)
           ·replace AL01 := if_yes c21 AL01
            have c21b0 : decide (x05 < (l5.length : Int)) = true := decide_eq_true c21
            clear c21
            have ip01 : (x05 < (l5.length : Int)) = True := eq_true (of_decide_eq_true c21b0)
            exact (none_no AL01).elim
           ·replace AL01 := if_no c21 AL01
            have c21b0 : decide (x05 < (l5.length : Int)) = false := decide_eq_false c21
            clear c21
            have ho := some_eq AL01
            subst ho
            clear AL01
            go_wp2_with fail
            obtain ⟨t13, HA22, H⟩ := bind_some H
            refine (quitrentlaw08_begun.calls _ t13 _ ⟨Sep.start _⟩ HA22).mono ?_
            rintro e_ w33 ⟨rfl, hS⟩
            replace HS : Aside0 (Sep (fps []) w [r11 none 0 0 [], r11 none 0 0 [], b14 g04 none 0 0 none 0 0] w33) := ⟨HS.out.call hS⟩
            clear hS
            replace HS : Aside0 (Sep (fps []) w [] w33) := ⟨HS.out.sub (.cons _ (.cons _ (.cons _ .slnil)))⟩
            go_wp2_with fail
            go_ret
            rw [← some_eq H]
            exact ⟨(by first | rfl | (simp [IntKind.wrap_u32]; done)), HS.out⟩
      ·replace H := if_no c20 H
       have c20b0 : (t03 == 0) = false := beq_eq_false_iff_ne.mpr c20
       have c20b1 : (t03 != 0) = true := bne_iff_ne.mpr c20
       clear c20
       replace HS : Aside0 (Sep (fps []) w [] w29) := ⟨HS.out.sub (.cons _ .slnil)⟩
       go_wp2_with fail
       go_ret
       rw [← some_eq H]
       exact ⟨(by first | rfl | (simp [IntKind.wrap_u32]; done)), HS.out⟩
    ·replace H := if_no c18 H
     have c18b0 : t05 = false := by simpa using c18
     have c18b1 : (!t05) = true := by rw [c18b0]; rfl
     try rw [c18b1]
     clear c18
     replace HS : Aside0 (Sep (fps []) w [] w29) := ⟨HS.out.sub (.cons _ .slnil)⟩
     go_wp2_with fail
     obtain ⟨t06, HA23, H⟩ := bind_some H
     refine (quitrentlaw08_begun.calls _ t06 _ ⟨Sep.start _⟩ HA23).mono ?_
     rintro e_ w34 ⟨rfl, hS⟩
     replace HS : Aside0 (Sep (fps []) w [] w34) := ⟨HS.out.call hS⟩
     clear hS
     go_wp2_with fail
     go_ret
     rw [← some_eq H]
     exact ⟨(by first | rfl | (simp [IntKind.wrap_u32]; done)), HS.out⟩
   ·replace H := if_no c17 H
    have c17b0 : t04 = false := by simpa using c17
    have c17b1 : (!t04) = true := by rw [c17b0]; rfl
    try rw [c17b1]
    clear c17
    replace HS : Aside0 (Sep (fps []) w [] w28) := ⟨HS.out.sub (.cons _ .slnil)⟩
    go_wp2_with fail
    obtain ⟨t06, HA24, H⟩ := bind_some H
    refine (quitrentlaw08_begun.calls _ t06 _ ⟨Sep.start _⟩ HA24).mono ?_
    rintro e_ w35 ⟨rfl, hS⟩
    replace HS : Aside0 (Sep (fps []) w [] w35) := ⟨HS.out.call hS⟩
    clear hS
    go_wp2_with fail
    go_ret
    rw [← some_eq H]
    exact ⟨(by first | rfl | (simp [IntKind.wrap_u32]; done)), HS.out⟩
end Go.Proofs.Ytobeonkddamnoaa.C
