/- Each function of the group ON does what its plain function says, and changes nothing that was there; proved by walking its code. No condition. -/
import Derived.Test.YtobeonkddamnoaaDoorQw
import Derived.Test.YtobeonkddamnoaaDoorMON
import Derived.Test.YtobeonkddamnoaaDoorGON0
import Derived.Test.YtobeonkddamnoaaDoorGON1
namespace Go.Proofs.YtobeonkddamnoaaDoor.C
open Go.RowKit Go.Proofs.YtobeonkddamnoaaDoorW.PrintWords Go.Proofs.YtobeonkddamnoaaDoorW.PrintLast Go.Proofs.YtobeonkddamnoaaDoor.Q Go.Proofs.YtobeonkddamnoaaDoor.M
set_option linter.unusedVariables false
set_option linter.unusedSimpArgs false
set_option maxHeartbeats 30000000 in
set_option maxRecDepth 100000 in
theorem plan_Of.calls (k : Nat) (a1696 : Int) (a1697 : Int) (a1698 : Int) (a1699 : Int) (r : Int × Int × Int × Int × Int × Int × Int × Int × Int) (w : World)  (HGl0 : Aside0 (Gl 0 #[.int .i64 0, .int .i64 0, .int .i64 0, .int .i64 0, .int .i64 0] (fps []) w)) (HS : Aside0 (Sep (fps []) w [] w)) (H : Aside0 (plan_Of.f k a1696 a1697 a1698 a1699 = some r)) :
    Calls Tryd.prog 65 #[.agg #[.int .i64 a1696, .int .i64 a1697, .int .i64 a1698, .int .i64 a1699]] w fun e w' => e = .returned (.tuple #[.agg #[.int .i64 r.1, .int .i64 r.2.1, .int .i64 r.2.2.1, .int .i64 r.2.2.2.1, .int .i64 r.2.2.2.2.1, .int .i64 r.2.2.2.2.2.1, .int .i64 r.2.2.2.2.2.2.1, .int .i64 r.2.2.2.2.2.2.2.1], .int .i64 r.2.2.2.2.2.2.2.2]) ∧ Sep (fps []) w [] w' := by
  unfold plan_Of.f at H
  go_enter Tryd.func65, Tryd.ntmps65
  go_wp2_with (first | ((with_reducible refine gate_dst (N := 1) rfl ?_); refine box_on ?hg (N := 1) ?hd (cs := #[.int .i64 a1696, .int .i64 a1697, .int .i64 a1698, .int .i64 a1699]) (t := 30) ?hr ?_; (case hd => rfl); (case hg => rfl); (case hr => first | (go_simp; done) | (go_simp; rfl)); intro g1700 hg w1701 hbox hb; replace HS : Aside0 (Sep (fps []) w [b1 g1700 a1696 a1697 a1698 a1699] w1701) := ⟨HS.out.box hg hbox hb⟩; clear hg hbox hb) | ((with_reducible refine gate_dst (N := 2) rfl ?_); refine box_on ?hg (N := 2) ?hd (cs := #[.int .i64 0, .int .i64 0, .int .i64 0, .int .i64 0, .int .i64 0, .int .i64 0, .int .i64 0, .int .i64 0]) (t := 97) ?hr ?_; (case hd => rfl); (case hg => rfl); (case hr => first | (go_simp; done) | (go_simp; rfl)); intro g1703 hg w1704 hbox hb; replace HS : Aside0 (Sep (fps []) w [b1 g1700 a1696 a1697 a1698 a1699, b18 g1703 0 0 0 0 0 0 0 0] w1704) := ⟨HS.out.box hg hbox hb⟩; clear hg hbox hb; have hc1706 : w1704.cell? ⟨g1700, 0, none⟩ = some (.int .i64 a1696) := blk_cellv (HS.out.at0) 0 rfl; have hc1707 : w1704.cell? ⟨g1700, 1, none⟩ = some (.int .i64 a1697) := blk_cellv (HS.out.at0) 1 rfl; have hc1708 : w1704.cell? ⟨g1700, 2, none⟩ = some (.int .i64 a1698) := blk_cellv (HS.out.at0) 2 rfl; have hc1709 : w1704.cell? ⟨g1700, 3, none⟩ = some (.int .i64 a1699) := blk_cellv (HS.out.at0) 3 rfl))
  clear hc1706 hc1707 hc1708 hc1709
  obtain ⟨t1746, HA1747, H⟩ := bind_some H
  refine (plan_Check.calls a1696 a1697 a1698 a1699 t1746 _ ⟨HGl0.out.pass (l := []) HS.out⟩ ⟨Sep.start _⟩ HA1747).mono ?_
  rintro e_ w1748 ⟨rfl, hS⟩
  replace HS : Aside0 (Sep (fps []) w [b1 g1700 a1696 a1697 a1698 a1699, b18 g1703 0 0 0 0 0 0 0 0] w1748) := ⟨HS.out.call hS⟩
  clear hS
  by_cases c1749 : t1746 = 0
  · have H := if_yes c1749 H
    have c1749b0 : (t1746 == 0) = true := beq_iff_eq.mpr c1749
    have c1749b1 : (t1746 != 0) = false := bne_eq_false_iff_eq.mpr c1749
    clear c1749
    go_wp2_with fail
    obtain ⟨t1822, HA1823, H⟩ := bind_some H
    obtain ⟨t1848, HA1849, H⟩ := bind_some H
    go_cut [5] (fun v5 wc => ∃ (g1752 : Nat) (g1825 : Nat) (g1851 : Nat), v5 = .pointer (some ⟨g1851, 0, none⟩) ∧ Aside0 (Sep (fps []) w [b1 g1700 a1696 a1697 a1698 a1699, b18 g1703 0 0 0 0 0 0 0 0, b2 g1752 a1696 a1697, b19 g1825 24 a1698 t1822, b18 g1851 t1848 (wrap64 (a1697 - 8)) 0 0 0 0 0 0] wc))
    case first =>
      go_wp2_with fail
      refine start_ (n := 16) (S := (fun w' => w'.cell? ⟨g1700, 2, none⟩ = some (.int .i64 a1698) ∧ w'.cell? ⟨g1700, 0, none⟩ = some (.int .i64 a1696) ∧ w'.cell? ⟨g1700, 1, none⟩ = some (.int .i64 a1697))) (ds := []) #[false, false, false, false, false, false, false, false, false, false, false, false, false, false, false, false] (by kernel_rfl) rfl rfl (⟨blk_cellv ((HS.out.drew).at0) 2 rfl, blk_cellv ((HS.out.drew).at0) 0 rfl, blk_cellv ((HS.out.drew).at0) 1 rfl⟩) (fun hHeld => ?_)
      have HS_ := Aside0.mk HS.out.drew
      clear HS
      generalize World.drew _ = w1873 at HS_ hHeld ⊢
      have HS := HS_
      clear HS_
      refine pure_ (i := 0) (N := some 12) (v := ?_) (a' := ?_) #[true, false, false, false, false, false, false, false, false, false, false, false, false, false, false, false] rfl rfl (by kernel_rfl) (fun _ _ _ h => h) (Or.inl ⟨by rfl, ?_⟩) ?_ ?_
      rotate_left
      · intro w'
        go_simp
        with_reducible rfl
      rotate_left
      · simp only [Act.put, List.setIfInBounds_toArray, List.set_cons_zero, List.set_cons_succ, i64_w, i32_w]
        rfl
      refine pure_ (i := 2) (N := some 14) (v := ?_) (a' := ?_) #[true, false, true, false, false, false, false, false, false, false, false, false, false, false, false, false] rfl rfl (by kernel_rfl) (fun _ _ _ h => h) (Or.inl ⟨by rfl, ?_⟩) ?_ ?_
      rotate_left
      · intro w'
        go_simp
        with_reducible rfl
      rotate_left
      · simp only [Act.put, List.setIfInBounds_toArray, List.set_cons_zero, List.set_cons_succ, i64_w, i32_w]
        rfl
      refine pure_ (i := 4) (N := some 16) (v := ?_) (a' := ?_) #[true, false, true, false, true, false, false, false, false, false, false, false, false, false, false, false] rfl rfl (by kernel_rfl) (fun _ _ _ h => h) (Or.inl ⟨by rfl, ?_⟩) ?_ ?_
      rotate_left
      · intro w'
        go_simp
        with_reducible rfl
      rotate_left
      · simp only [Act.put, List.setIfInBounds_toArray, List.set_cons_zero, List.set_cons_succ, i64_w, i32_w]
        rfl
      refine pure_ (i := 10) (N := some 22) (v := ?_) (a' := ?_) #[true, false, true, false, true, false, false, false, false, false, true, false, false, false, false, false] rfl rfl (by kernel_rfl) (fun _ _ _ h => h) (Or.inl ⟨by rfl, ?_⟩) ?_ ?_
      rotate_left
      · intro w'
        go_simp
        with_reducible rfl
      rotate_left
      · simp only [Act.put, List.setIfInBounds_toArray, List.set_cons_zero, List.set_cons_succ, i64_w, i32_w]
        rfl
      refine take_ (i := 1) (N := some 13) (v := ?_) (a' := ?_) #[true, true, true, false, true, false, false, false, false, false, true, false, false, false, false, false] rfl rfl (by kernel_rfl) (fun _ _ _ h => h) (Or.inl ⟨by rfl, ?_⟩) hHeld ?_ ?_
      rotate_left
      · rintro w' hS'
        obtain ⟨s0, s1, s2⟩ := hS'
        go_simp
        with_reducible rfl
      rotate_left
      · simp only [Act.put, List.setIfInBounds_toArray, List.set_cons_zero, List.set_cons_succ, i64_w, i32_w]
        rfl
      refine take_ (i := 3) (N := some 15) (v := ?_) (a' := ?_) #[true, true, true, true, true, false, false, false, false, false, true, false, false, false, false, false] rfl rfl (by kernel_rfl) (fun _ _ _ h => h) (Or.inl ⟨by rfl, ?_⟩) hHeld ?_ ?_
      rotate_left
      · rintro w' hS'
        obtain ⟨s0, s1, s2⟩ := hS'
        go_simp
        with_reducible rfl
      rotate_left
      · simp only [Act.put, List.setIfInBounds_toArray, List.set_cons_zero, List.set_cons_succ, i64_w, i32_w]
        rfl
      refine take_ (i := 5) (N := some 17) (v := ?_) (a' := ?_) #[true, true, true, true, true, true, false, false, false, false, true, false, false, false, false, false] rfl rfl (by kernel_rfl) (fun _ _ _ h => h) (Or.inl ⟨by rfl, ?_⟩) hHeld ?_ ?_
      rotate_left
      · rintro w' hS'
        obtain ⟨s0, s1, s2⟩ := hS'
        go_simp
        with_reducible rfl
      rotate_left
      · simp only [Act.put, List.setIfInBounds_toArray, List.set_cons_zero, List.set_cons_succ, i64_w, i32_w]
        rfl
      refine take_ (i := 11) (N := some 23) (v := ?_) (a' := ?_) #[true, true, true, true, true, true, false, false, false, false, true, true, false, false, false, false] rfl rfl (by kernel_rfl) (fun _ _ _ h => h) (Or.inl ⟨by rfl, ?_⟩) hHeld ?_ ?_
      rotate_left
      · rintro w' hS'
        obtain ⟨s0, s1, s2⟩ := hS'
        go_simp
        with_reducible rfl
      rotate_left
      · simp only [Act.put, List.setIfInBounds_toArray, List.set_cons_zero, List.set_cons_succ, i64_w, i32_w]
        rfl
      refine pure_ (i := 12) (N := some 24) (v := ?_) (a' := ?_) #[true, true, true, true, true, true, false, false, false, false, true, true, true, false, false, false] rfl rfl (by kernel_rfl) (fun _ _ _ h => h) (Or.inl ⟨by rfl, ?_⟩) ?_ ?_
      rotate_left
      · intro w'
        go_simp
        with_reducible rfl
      rotate_left
      · simp only [Act.put, List.setIfInBounds_toArray, List.set_cons_zero, List.set_cons_succ, i64_w, i32_w]
        rfl
      refine two_ (i := 6) (j := 14) (Ni := some 18) (Nj := some 5) #[true, true, true, true, true, true, true, false, false, false, true, true, true, false, false, false] #[true, true, true, true, true, true, false, false, false, false, true, true, true, false, true, false] rfl rfl rfl rfl (by kernel_rfl) (by decide) (by decide) (fun K hK => ?_) (fun K hK => ?_)
      · refine slice_step (n := 2) (by rfl) (N := 18) rfl (cs := #[.int .i64 a1696, .int .i64 a1697]) (t := 3) ?hr ?_
        case hr => first | (go_simp; done) | (go_simp; rfl)
        intro g1874 hg w1875 hbox hb
        replace HS : Aside0 (Sep (fps []) w [b1 g1700 a1696 a1697 a1698 a1699, b18 g1703 0 0 0 0 0 0 0 0, b2 g1874 a1696 a1697] w1875) := ⟨HS.out.box hg hbox hb⟩
        clear hg hbox hb
        refine hK.out _ _ (⟨blk_cellv (HS.out.at0) 2 rfl, blk_cellv (HS.out.at0) 0 rfl, blk_cellv (HS.out.at0) 1 rfl⟩) (fun hHeld => ?_)
        clear hK K
        refine norm_ (a' := ?_) ?_ ?_
        rotate_left
        · show Act.put _ (some 18) _ = _
          simp only [Act.put, List.setIfInBounds_toArray, List.set_cons_zero, List.set_cons_succ, i64_w, i32_w]
          rfl
        refine two_ (i := 7) (j := 14) (Ni := some 19) (Nj := some 5) #[true, true, true, true, true, true, true, true, false, false, true, true, true, false, false, false] #[true, true, true, true, true, true, true, false, false, false, true, true, true, false, true, false] rfl rfl rfl rfl (by kernel_rfl) (by decide) (by decide) (fun K hK => ?_) (fun K hK => ?_)
        · refine goes_ Tryd.func123 (by kernel_rfl) rfl #[.slice (some ⟨g1874, 0, none⟩) 2 2] (by rfl) rfl rfl (by (try simp only [List.map_toArray, List.map_cons, List.map_nil]); first | done | rfl) ?_
          refine (ratio_Mul.calls _ [a1696, a1697] (some ⟨g1874, 0, none⟩) 2 t1822 _ ⟨Rd.lit (l := []) (xs := [a1696, a1697]) HS.out 2 rfl (by simp)⟩ ⟨HGl0.out.pass (l := []) HS.out⟩ ⟨Sep.start _⟩ HA1823).mono ?_
          rintro e_ w1878 ⟨rfl, hS⟩
          replace HS : Aside0 (Sep (fps []) w [b1 g1700 a1696 a1697 a1698 a1699, b18 g1703 0 0 0 0 0 0 0 0, b2 g1874 a1696 a1697] w1878) := ⟨HS.out.call hS⟩
          clear hS
          refine ⟨_, rfl, ?_⟩
          refine hK.out _ _ (⟨blk_cellv (HS.out.at0) 2 rfl, blk_cellv (HS.out.at0) 0 rfl, blk_cellv (HS.out.at0) 1 rfl⟩) (fun hHeld => ?_)
          clear hK K
          refine norm_ (a' := ?_) ?_ ?_
          rotate_left
          · show Act.put _ (some 19) _ = _
            simp only [Act.put, List.setIfInBounds_toArray, List.set_cons_zero, List.set_cons_succ, i64_w, i32_w]
            rfl
          refine two_ (i := 8) (j := 14) (Ni := some 20) (Nj := some 5) #[true, true, true, true, true, true, true, true, true, false, true, true, true, false, false, false] #[true, true, true, true, true, true, true, true, false, false, true, true, true, false, true, false] rfl rfl rfl rfl (by kernel_rfl) (by decide) (by decide) (fun K hK => ?_) (fun K hK => ?_)
          · refine slice_step (n := 3) (by rfl) (N := 20) rfl (cs := #[.int .i64 24, .int .i64 a1698, .int .i64 t1822]) (t := 3) ?hr ?_
            case hr => first | (go_simp; done) | (go_simp; rfl)
            intro g1879 hg w1880 hbox hb
            replace HS : Aside0 (Sep (fps []) w [b1 g1700 a1696 a1697 a1698 a1699, b18 g1703 0 0 0 0 0 0 0 0, b2 g1874 a1696 a1697, b19 g1879 24 a1698 t1822] w1880) := ⟨HS.out.box hg hbox hb⟩
            clear hg hbox hb
            refine hK.out _ _ (⟨blk_cellv (HS.out.at0) 2 rfl, blk_cellv (HS.out.at0) 0 rfl, blk_cellv (HS.out.at0) 1 rfl⟩) (fun hHeld => ?_)
            clear hK K
            refine norm_ (a' := ?_) ?_ ?_
            rotate_left
            · show Act.put _ (some 20) _ = _
              simp only [Act.put, List.setIfInBounds_toArray, List.set_cons_zero, List.set_cons_succ, i64_w, i32_w]
              rfl
            refine two_ (i := 9) (j := 14) (Ni := some 21) (Nj := some 5) #[true, true, true, true, true, true, true, true, true, true, true, true, true, false, false, false] #[true, true, true, true, true, true, true, true, true, false, true, true, true, false, true, false] rfl rfl rfl rfl (by kernel_rfl) (by decide) (by decide) (fun K hK => ?_) (fun K hK => ?_)
            · refine goes_ Tryd.func122 (by kernel_rfl) rfl #[.slice (some ⟨g1879, 0, none⟩) 3 3] (by rfl) rfl rfl (by (try simp only [List.map_toArray, List.map_cons, List.map_nil]); first | done | rfl) ?_
              refine (ratio_Add.calls _ [24, a1698, t1822] (some ⟨g1879, 0, none⟩) 3 t1848 _ ⟨Rd.lit (l := []) (xs := [24, a1698, t1822]) HS.out 3 rfl (by simp)⟩ ⟨HGl0.out.pass (l := []) HS.out⟩ ⟨Sep.start _⟩ HA1849).mono ?_
              rintro e_ w1883 ⟨rfl, hS⟩
              replace HS : Aside0 (Sep (fps []) w [b1 g1700 a1696 a1697 a1698 a1699, b18 g1703 0 0 0 0 0 0 0 0, b2 g1874 a1696 a1697, b19 g1879 24 a1698 t1822] w1883) := ⟨HS.out.call hS⟩
              clear hS
              refine ⟨_, rfl, ?_⟩
              refine hK.out _ _ (⟨blk_cellv (HS.out.at0) 2 rfl, blk_cellv (HS.out.at0) 0 rfl, blk_cellv (HS.out.at0) 1 rfl⟩) (fun hHeld => ?_)
              clear hK K
              refine norm_ (a' := ?_) ?_ ?_
              rotate_left
              · show Act.put _ (some 21) _ = _
                simp only [Act.put, List.setIfInBounds_toArray, List.set_cons_zero, List.set_cons_succ, i64_w, i32_w]
                rfl
              refine pure_ (i := 13) (N := some 25) (v := ?_) (a' := ?_) #[true, true, true, true, true, true, true, true, true, true, true, true, true, true, false, false] rfl rfl (by kernel_rfl) (fun _ _ _ h => h) (Or.inl ⟨by rfl, ?_⟩) ?_ ?_
              rotate_left
              · intro w'
                go_simp
                with_reducible rfl
              rotate_left
              · simp only [Act.put, List.setIfInBounds_toArray, List.set_cons_zero, List.set_cons_succ, i64_w, i32_w]
                rfl
              refine one_ (i := 14) (N := some 5) #[true, true, true, true, true, true, true, true, true, true, true, true, true, true, true, false] rfl rfl (by kernel_rfl) (by decide) (fun K hK => ?_)
              refine box_step (by rfl) (N := 5) rfl (cs := #[.int .i64 0, .int .i64 0, .int .i64 0, .int .i64 0, .int .i64 0, .int .i64 0, .int .i64 0, .int .i64 0]) (t := 97) ?hr ?_
              case hr => first | (go_simp; done) | (go_simp; rfl)
              intro g1884 hg w1885 hbox hb
              replace HS : Aside0 (Sep (fps []) w [b1 g1700 a1696 a1697 a1698 a1699, b18 g1703 0 0 0 0 0 0 0 0, b2 g1874 a1696 a1697, b19 g1879 24 a1698 t1822, b18 g1884 0 0 0 0 0 0 0 0] w1885) := ⟨HS.out.box hg hbox hb⟩
              clear hg hbox hb
              refine hK.out _ _ (⟨blk_cellv (HS.out.at0) 2 rfl, blk_cellv (HS.out.at0) 0 rfl, blk_cellv (HS.out.at0) 1 rfl⟩) (fun hHeld => ?_)
              clear hK K
              refine norm_ (a' := ?_) ?_ ?_
              rotate_left
              · show Act.put _ (some 5) _ = _
                simp only [Act.put, List.setIfInBounds_toArray, List.set_cons_zero, List.set_cons_succ, i64_w, i32_w]
                rfl
              refine one_ (i := 15) (N := none) #[true, true, true, true, true, true, true, true, true, true, true, true, true, true, true, true] rfl rfl (by kernel_rfl) (by decide) (fun K hK => ?_)
              have hc1888 := blk_cellv (v := .int .i64 0) (HS.out.at4) 0 rfl
              have hz1889 := blk_fz (HS.out.at4) 0
              have hc1890 := blk_cellv (v := .int .i64 0) (HS.out.at4) 1 rfl
              have hz1891 := blk_fz (HS.out.at4) 1
              have hc1892 := blk_cellv (v := .int .i64 0) (HS.out.at4) 2 rfl
              have hz1893 := blk_fz (HS.out.at4) 2
              have hc1894 := blk_cellv (v := .int .i64 0) (HS.out.at4) 3 rfl
              have hz1895 := blk_fz (HS.out.at4) 3
              have hc1896 := blk_cellv (v := .int .i64 0) (HS.out.at4) 4 rfl
              have hz1897 := blk_fz (HS.out.at4) 4
              have hc1898 := blk_cellv (v := .int .i64 0) (HS.out.at4) 5 rfl
              have hz1899 := blk_fz (HS.out.at4) 5
              have hc1900 := blk_cellv (v := .int .i64 0) (HS.out.at4) 6 rfl
              have hz1901 := blk_fz (HS.out.at4) 6
              have hc1902 := blk_cellv (v := .int .i64 0) (HS.out.at4) 7 rfl
              have hz1903 := blk_fz (HS.out.at4) 7
              refine store_step (w1 := (World.setCell (World.setCell (World.setCell (World.setCell (World.setCell (World.setCell (World.setCell (World.setCell w1885 ⟨g1884, 0, none⟩ (.int .i64 t1848)) ⟨g1884, 1, none⟩ (.int .i64 (wrap64 (a1697 - 8)))) ⟨g1884, 2, none⟩ (.int .i64 0)) ⟨g1884, 3, none⟩ (.int .i64 0)) ⟨g1884, 4, none⟩ (.int .i64 0)) ⟨g1884, 5, none⟩ (.int .i64 0)) ⟨g1884, 6, none⟩ (.int .i64 0)) ⟨g1884, 7, none⟩ (.int .i64 0))) (by rfl) rfl ?hr ?_
              case hr => first | (go_simp; done) | (go_simp; rfl)
              clear hc1888 hz1889 hc1890 hz1891 hc1892 hz1893 hc1894 hz1895 hc1896 hz1897 hc1898 hz1899 hc1900 hz1901 hc1902 hz1903
              intro w1887 hst
              replace HS : Aside0 (Sep (fps []) w [b1 g1700 a1696 a1697 a1698 a1699, b18 g1703 0 0 0 0 0 0 0 0, b2 g1874 a1696 a1697, b19 g1879 24 a1698 t1822, b18 g1884 t1848 (wrap64 (a1697 - 8)) 0 0 0 0 0 0] w1887) := ⟨by rw [hst]; exact HS.out.setAll (l1 := [b1 g1700 a1696 a1697 a1698 a1699, b18 g1703 0 0 0 0 0 0 0 0, b2 g1874 a1696 a1697, b19 g1879 24 a1698 t1822]) (l2 := []) [.int .i64 t1848, .int .i64 (wrap64 (a1697 - 8)), .int .i64 0, .int .i64 0, .int .i64 0, .int .i64 0, .int .i64 0, .int .i64 0] rfl⟩
              clear hst
              refine hK.out _ _ (⟨blk_cellv (HS.out.at0) 2 rfl, blk_cellv (HS.out.at0) 0 rfl, blk_cellv (HS.out.at0) 1 rfl⟩) (fun hHeld => ?_)
              clear hK K
              refine done_ (by kernel_rfl) ?_
              go_wp2_with fail
              go_meet
              case rel => exact ⟨g1874, g1879, g1884, (by first | rfl | (simp [IntKind.wrap_u32]; done)), ⟨(((((HS.out).front 4 (by simp)).front 4 (by simp)).front 4 (by simp)).front 4 (by simp)).front 4 (by simp)⟩⟩
            · refine box_step (by rfl) (N := 5) rfl (cs := #[.int .i64 0, .int .i64 0, .int .i64 0, .int .i64 0, .int .i64 0, .int .i64 0, .int .i64 0, .int .i64 0]) (t := 97) ?hr ?_
              case hr => first | (go_simp; done) | (go_simp; rfl)
              intro g1904 hg w1905 hbox hb
              replace HS : Aside0 (Sep (fps []) w [b1 g1700 a1696 a1697 a1698 a1699, b18 g1703 0 0 0 0 0 0 0 0, b2 g1874 a1696 a1697, b19 g1879 24 a1698 t1822, b18 g1904 0 0 0 0 0 0 0 0] w1905) := ⟨HS.out.box hg hbox hb⟩
              clear hg hbox hb
              refine hK.out _ _ (⟨blk_cellv (HS.out.at0) 2 rfl, blk_cellv (HS.out.at0) 0 rfl, blk_cellv (HS.out.at0) 1 rfl⟩) (fun hHeld => ?_)
              clear hK K
              refine norm_ (a' := ?_) ?_ ?_
              rotate_left
              · show Act.put _ (some 5) _ = _
                simp only [Act.put, List.setIfInBounds_toArray, List.set_cons_zero, List.set_cons_succ, i64_w, i32_w]
                rfl
              refine one_ (i := 9) (N := some 21) #[true, true, true, true, true, true, true, true, true, true, true, true, true, false, true, false] rfl rfl (by kernel_rfl) (by decide) (fun K hK => ?_)
              refine goes_ Tryd.func122 (by kernel_rfl) rfl #[.slice (some ⟨g1879, 0, none⟩) 3 3] (by rfl) rfl rfl (by (try simp only [List.map_toArray, List.map_cons, List.map_nil]); first | done | rfl) ?_
              refine (ratio_Add.calls _ [24, a1698, t1822] (some ⟨g1879, 0, none⟩) 3 t1848 _ ⟨Rd.lit (l := []) (xs := [24, a1698, t1822]) HS.out 3 rfl (by simp)⟩ ⟨HGl0.out.pass (l := []) HS.out⟩ ⟨Sep.start _⟩ HA1849).mono ?_
              rintro e_ w1908 ⟨rfl, hS⟩
              replace HS : Aside0 (Sep (fps []) w [b1 g1700 a1696 a1697 a1698 a1699, b18 g1703 0 0 0 0 0 0 0 0, b2 g1874 a1696 a1697, b19 g1879 24 a1698 t1822, b18 g1904 0 0 0 0 0 0 0 0] w1908) := ⟨HS.out.call hS⟩
              clear hS
              refine ⟨_, rfl, ?_⟩
              refine hK.out _ _ (⟨blk_cellv (HS.out.at0) 2 rfl, blk_cellv (HS.out.at0) 0 rfl, blk_cellv (HS.out.at0) 1 rfl⟩) (fun hHeld => ?_)
              clear hK K
              refine norm_ (a' := ?_) ?_ ?_
              rotate_left
              · show Act.put _ (some 21) _ = _
                simp only [Act.put, List.setIfInBounds_toArray, List.set_cons_zero, List.set_cons_succ, i64_w, i32_w]
                rfl
              refine pure_ (i := 13) (N := some 25) (v := ?_) (a' := ?_) #[true, true, true, true, true, true, true, true, true, true, true, true, true, true, true, false] rfl rfl (by kernel_rfl) (fun _ _ _ h => h) (Or.inl ⟨by rfl, ?_⟩) ?_ ?_
              rotate_left
              · intro w'
                go_simp
                with_reducible rfl
              rotate_left
              · simp only [Act.put, List.setIfInBounds_toArray, List.set_cons_zero, List.set_cons_succ, i64_w, i32_w]
                rfl
              refine one_ (i := 15) (N := none) #[true, true, true, true, true, true, true, true, true, true, true, true, true, true, true, true] rfl rfl (by kernel_rfl) (by decide) (fun K hK => ?_)
              have hc1910 := blk_cellv (v := .int .i64 0) (HS.out.at4) 0 rfl
              have hz1911 := blk_fz (HS.out.at4) 0
              have hc1912 := blk_cellv (v := .int .i64 0) (HS.out.at4) 1 rfl
              have hz1913 := blk_fz (HS.out.at4) 1
              have hc1914 := blk_cellv (v := .int .i64 0) (HS.out.at4) 2 rfl
              have hz1915 := blk_fz (HS.out.at4) 2
              have hc1916 := blk_cellv (v := .int .i64 0) (HS.out.at4) 3 rfl
              have hz1917 := blk_fz (HS.out.at4) 3
              have hc1918 := blk_cellv (v := .int .i64 0) (HS.out.at4) 4 rfl
              have hz1919 := blk_fz (HS.out.at4) 4
              have hc1920 := blk_cellv (v := .int .i64 0) (HS.out.at4) 5 rfl
              have hz1921 := blk_fz (HS.out.at4) 5
              have hc1922 := blk_cellv (v := .int .i64 0) (HS.out.at4) 6 rfl
              have hz1923 := blk_fz (HS.out.at4) 6
              have hc1924 := blk_cellv (v := .int .i64 0) (HS.out.at4) 7 rfl
              have hz1925 := blk_fz (HS.out.at4) 7
              refine store_step (w1 := (World.setCell (World.setCell (World.setCell (World.setCell (World.setCell (World.setCell (World.setCell (World.setCell w1908 ⟨g1904, 0, none⟩ (.int .i64 t1848)) ⟨g1904, 1, none⟩ (.int .i64 (wrap64 (a1697 - 8)))) ⟨g1904, 2, none⟩ (.int .i64 0)) ⟨g1904, 3, none⟩ (.int .i64 0)) ⟨g1904, 4, none⟩ (.int .i64 0)) ⟨g1904, 5, none⟩ (.int .i64 0)) ⟨g1904, 6, none⟩ (.int .i64 0)) ⟨g1904, 7, none⟩ (.int .i64 0))) (by rfl) rfl ?hr ?_
              case hr => first | (go_simp; done) | (go_simp; rfl)
              clear hc1910 hz1911 hc1912 hz1913 hc1914 hz1915 hc1916 hz1917 hc1918 hz1919 hc1920 hz1921 hc1922 hz1923 hc1924 hz1925
              intro w1909 hst
              replace HS : Aside0 (Sep (fps []) w [b1 g1700 a1696 a1697 a1698 a1699, b18 g1703 0 0 0 0 0 0 0 0, b2 g1874 a1696 a1697, b19 g1879 24 a1698 t1822, b18 g1904 t1848 (wrap64 (a1697 - 8)) 0 0 0 0 0 0] w1909) := ⟨by rw [hst]; exact HS.out.setAll (l1 := [b1 g1700 a1696 a1697 a1698 a1699, b18 g1703 0 0 0 0 0 0 0 0, b2 g1874 a1696 a1697, b19 g1879 24 a1698 t1822]) (l2 := []) [.int .i64 t1848, .int .i64 (wrap64 (a1697 - 8)), .int .i64 0, .int .i64 0, .int .i64 0, .int .i64 0, .int .i64 0, .int .i64 0] rfl⟩
              clear hst
              refine hK.out _ _ (⟨blk_cellv (HS.out.at0) 2 rfl, blk_cellv (HS.out.at0) 0 rfl, blk_cellv (HS.out.at0) 1 rfl⟩) (fun hHeld => ?_)
              clear hK K
              refine done_ (by kernel_rfl) ?_
              go_wp2_with fail
              go_meet
              case rel => exact ⟨g1874, g1879, g1904, (by first | rfl | (simp [IntKind.wrap_u32]; done)), ⟨(((((HS.out).front 4 (by simp)).front 4 (by simp)).front 4 (by simp)).front 4 (by simp)).front 4 (by simp)⟩⟩
          · refine box_step (by rfl) (N := 5) rfl (cs := #[.int .i64 0, .int .i64 0, .int .i64 0, .int .i64 0, .int .i64 0, .int .i64 0, .int .i64 0, .int .i64 0]) (t := 97) ?hr ?_
            case hr => first | (go_simp; done) | (go_simp; rfl)
            intro g1926 hg w1927 hbox hb
            replace HS : Aside0 (Sep (fps []) w [b1 g1700 a1696 a1697 a1698 a1699, b18 g1703 0 0 0 0 0 0 0 0, b2 g1874 a1696 a1697, b18 g1926 0 0 0 0 0 0 0 0] w1927) := ⟨HS.out.box hg hbox hb⟩
            clear hg hbox hb
            refine hK.out _ _ (⟨blk_cellv (HS.out.at0) 2 rfl, blk_cellv (HS.out.at0) 0 rfl, blk_cellv (HS.out.at0) 1 rfl⟩) (fun hHeld => ?_)
            clear hK K
            refine norm_ (a' := ?_) ?_ ?_
            rotate_left
            · show Act.put _ (some 5) _ = _
              simp only [Act.put, List.setIfInBounds_toArray, List.set_cons_zero, List.set_cons_succ, i64_w, i32_w]
              rfl
            refine one_ (i := 8) (N := some 20) #[true, true, true, true, true, true, true, true, true, false, true, true, true, false, true, false] rfl rfl (by kernel_rfl) (by decide) (fun K hK => ?_)
            refine slice_step (n := 3) (by rfl) (N := 20) rfl (cs := #[.int .i64 24, .int .i64 a1698, .int .i64 t1822]) (t := 3) ?hr ?_
            case hr => first | (go_simp; done) | (go_simp; rfl)
            intro g1929 hg w1930 hbox hb
            replace HS : Aside0 (Sep (fps []) w [b1 g1700 a1696 a1697 a1698 a1699, b18 g1703 0 0 0 0 0 0 0 0, b2 g1874 a1696 a1697, b18 g1926 0 0 0 0 0 0 0 0, b19 g1929 24 a1698 t1822] w1930) := ⟨HS.out.box hg hbox hb⟩
            clear hg hbox hb
            refine hK.out _ _ (⟨blk_cellv (HS.out.at0) 2 rfl, blk_cellv (HS.out.at0) 0 rfl, blk_cellv (HS.out.at0) 1 rfl⟩) (fun hHeld => ?_)
            clear hK K
            refine norm_ (a' := ?_) ?_ ?_
            rotate_left
            · show Act.put _ (some 20) _ = _
              simp only [Act.put, List.setIfInBounds_toArray, List.set_cons_zero, List.set_cons_succ, i64_w, i32_w]
              rfl
            refine one_ (i := 9) (N := some 21) #[true, true, true, true, true, true, true, true, true, true, true, true, true, false, true, false] rfl rfl (by kernel_rfl) (by decide) (fun K hK => ?_)
            refine goes_ Tryd.func122 (by kernel_rfl) rfl #[.slice (some ⟨g1929, 0, none⟩) 3 3] (by rfl) rfl rfl (by (try simp only [List.map_toArray, List.map_cons, List.map_nil]); first | done | rfl) ?_
            refine (ratio_Add.calls _ [24, a1698, t1822] (some ⟨g1929, 0, none⟩) 3 t1848 _ ⟨Rd.lit (l := []) (xs := [24, a1698, t1822]) HS.out 4 rfl (by simp)⟩ ⟨HGl0.out.pass (l := []) HS.out⟩ ⟨Sep.start _⟩ HA1849).mono ?_
            rintro e_ w1933 ⟨rfl, hS⟩
            replace HS : Aside0 (Sep (fps []) w [b1 g1700 a1696 a1697 a1698 a1699, b18 g1703 0 0 0 0 0 0 0 0, b2 g1874 a1696 a1697, b18 g1926 0 0 0 0 0 0 0 0, b19 g1929 24 a1698 t1822] w1933) := ⟨HS.out.call hS⟩
            clear hS
            refine ⟨_, rfl, ?_⟩
            refine hK.out _ _ (⟨blk_cellv (HS.out.at0) 2 rfl, blk_cellv (HS.out.at0) 0 rfl, blk_cellv (HS.out.at0) 1 rfl⟩) (fun hHeld => ?_)
            clear hK K
            refine norm_ (a' := ?_) ?_ ?_
            rotate_left
            · show Act.put _ (some 21) _ = _
              simp only [Act.put, List.setIfInBounds_toArray, List.set_cons_zero, List.set_cons_succ, i64_w, i32_w]
              rfl
            refine pure_ (i := 13) (N := some 25) (v := ?_) (a' := ?_) #[true, true, true, true, true, true, true, true, true, true, true, true, true, true, true, false] rfl rfl (by kernel_rfl) (fun _ _ _ h => h) (Or.inl ⟨by rfl, ?_⟩) ?_ ?_
            rotate_left
            · intro w'
              go_simp
              with_reducible rfl
            rotate_left
            · simp only [Act.put, List.setIfInBounds_toArray, List.set_cons_zero, List.set_cons_succ, i64_w, i32_w]
              rfl
            refine one_ (i := 15) (N := none) #[true, true, true, true, true, true, true, true, true, true, true, true, true, true, true, true] rfl rfl (by kernel_rfl) (by decide) (fun K hK => ?_)
            have hc1935 := blk_cellv (v := .int .i64 0) (HS.out.at3) 0 rfl
            have hz1936 := blk_fz (HS.out.at3) 0
            have hc1937 := blk_cellv (v := .int .i64 0) (HS.out.at3) 1 rfl
            have hz1938 := blk_fz (HS.out.at3) 1
            have hc1939 := blk_cellv (v := .int .i64 0) (HS.out.at3) 2 rfl
            have hz1940 := blk_fz (HS.out.at3) 2
            have hc1941 := blk_cellv (v := .int .i64 0) (HS.out.at3) 3 rfl
            have hz1942 := blk_fz (HS.out.at3) 3
            have hc1943 := blk_cellv (v := .int .i64 0) (HS.out.at3) 4 rfl
            have hz1944 := blk_fz (HS.out.at3) 4
            have hc1945 := blk_cellv (v := .int .i64 0) (HS.out.at3) 5 rfl
            have hz1946 := blk_fz (HS.out.at3) 5
            have hc1947 := blk_cellv (v := .int .i64 0) (HS.out.at3) 6 rfl
            have hz1948 := blk_fz (HS.out.at3) 6
            have hc1949 := blk_cellv (v := .int .i64 0) (HS.out.at3) 7 rfl
            have hz1950 := blk_fz (HS.out.at3) 7
            refine store_step (w1 := (World.setCell (World.setCell (World.setCell (World.setCell (World.setCell (World.setCell (World.setCell (World.setCell w1933 ⟨g1926, 0, none⟩ (.int .i64 t1848)) ⟨g1926, 1, none⟩ (.int .i64 (wrap64 (a1697 - 8)))) ⟨g1926, 2, none⟩ (.int .i64 0)) ⟨g1926, 3, none⟩ (.int .i64 0)) ⟨g1926, 4, none⟩ (.int .i64 0)) ⟨g1926, 5, none⟩ (.int .i64 0)) ⟨g1926, 6, none⟩ (.int .i64 0)) ⟨g1926, 7, none⟩ (.int .i64 0))) (by rfl) rfl ?hr ?_
            case hr => first | (go_simp; done) | (go_simp; rfl)
            clear hc1935 hz1936 hc1937 hz1938 hc1939 hz1940 hc1941 hz1942 hc1943 hz1944 hc1945 hz1946 hc1947 hz1948 hc1949 hz1950
            intro w1934 hst
            replace HS : Aside0 (Sep (fps []) w [b1 g1700 a1696 a1697 a1698 a1699, b18 g1703 0 0 0 0 0 0 0 0, b2 g1874 a1696 a1697, b18 g1926 t1848 (wrap64 (a1697 - 8)) 0 0 0 0 0 0, b19 g1929 24 a1698 t1822] w1934) := ⟨by rw [hst]; exact HS.out.setAll (l1 := [b1 g1700 a1696 a1697 a1698 a1699, b18 g1703 0 0 0 0 0 0 0 0, b2 g1874 a1696 a1697]) (l2 := [b19 g1929 24 a1698 t1822]) [.int .i64 t1848, .int .i64 (wrap64 (a1697 - 8)), .int .i64 0, .int .i64 0, .int .i64 0, .int .i64 0, .int .i64 0, .int .i64 0] rfl⟩
            clear hst
            refine hK.out _ _ (⟨blk_cellv (HS.out.at0) 2 rfl, blk_cellv (HS.out.at0) 0 rfl, blk_cellv (HS.out.at0) 1 rfl⟩) (fun hHeld => ?_)
            clear hK K
            refine done_ (by kernel_rfl) ?_
            go_wp2_with fail
            go_meet
            case rel => exact ⟨g1874, g1929, g1926, (by first | rfl | (simp [IntKind.wrap_u32]; done)), ⟨(((((HS.out).front 3 (by simp)).front 4 (by simp)).front 4 (by simp)).front 4 (by simp)).front 4 (by simp)⟩⟩
        · refine box_step (by rfl) (N := 5) rfl (cs := #[.int .i64 0, .int .i64 0, .int .i64 0, .int .i64 0, .int .i64 0, .int .i64 0, .int .i64 0, .int .i64 0]) (t := 97) ?hr ?_
          case hr => first | (go_simp; done) | (go_simp; rfl)
          intro g1951 hg w1952 hbox hb
          replace HS : Aside0 (Sep (fps []) w [b1 g1700 a1696 a1697 a1698 a1699, b18 g1703 0 0 0 0 0 0 0 0, b2 g1874 a1696 a1697, b18 g1951 0 0 0 0 0 0 0 0] w1952) := ⟨HS.out.box hg hbox hb⟩
          clear hg hbox hb
          refine hK.out _ _ (⟨blk_cellv (HS.out.at0) 2 rfl, blk_cellv (HS.out.at0) 0 rfl, blk_cellv (HS.out.at0) 1 rfl⟩) (fun hHeld => ?_)
          clear hK K
          refine norm_ (a' := ?_) ?_ ?_
          rotate_left
          · show Act.put _ (some 5) _ = _
            simp only [Act.put, List.setIfInBounds_toArray, List.set_cons_zero, List.set_cons_succ, i64_w, i32_w]
            rfl
          refine one_ (i := 7) (N := some 19) #[true, true, true, true, true, true, true, true, false, false, true, true, true, false, true, false] rfl rfl (by kernel_rfl) (by decide) (fun K hK => ?_)
          refine goes_ Tryd.func123 (by kernel_rfl) rfl #[.slice (some ⟨g1874, 0, none⟩) 2 2] (by rfl) rfl rfl (by (try simp only [List.map_toArray, List.map_cons, List.map_nil]); first | done | rfl) ?_
          refine (ratio_Mul.calls _ [a1696, a1697] (some ⟨g1874, 0, none⟩) 2 t1822 _ ⟨Rd.lit (l := []) (xs := [a1696, a1697]) HS.out 2 rfl (by simp)⟩ ⟨HGl0.out.pass (l := []) HS.out⟩ ⟨Sep.start _⟩ HA1823).mono ?_
          rintro e_ w1955 ⟨rfl, hS⟩
          replace HS : Aside0 (Sep (fps []) w [b1 g1700 a1696 a1697 a1698 a1699, b18 g1703 0 0 0 0 0 0 0 0, b2 g1874 a1696 a1697, b18 g1951 0 0 0 0 0 0 0 0] w1955) := ⟨HS.out.call hS⟩
          clear hS
          refine ⟨_, rfl, ?_⟩
          refine hK.out _ _ (⟨blk_cellv (HS.out.at0) 2 rfl, blk_cellv (HS.out.at0) 0 rfl, blk_cellv (HS.out.at0) 1 rfl⟩) (fun hHeld => ?_)
          clear hK K
          refine norm_ (a' := ?_) ?_ ?_
          rotate_left
          · show Act.put _ (some 19) _ = _
            simp only [Act.put, List.setIfInBounds_toArray, List.set_cons_zero, List.set_cons_succ, i64_w, i32_w]
            rfl
          refine one_ (i := 8) (N := some 20) #[true, true, true, true, true, true, true, true, true, false, true, true, true, false, true, false] rfl rfl (by kernel_rfl) (by decide) (fun K hK => ?_)
          refine slice_step (n := 3) (by rfl) (N := 20) rfl (cs := #[.int .i64 24, .int .i64 a1698, .int .i64 t1822]) (t := 3) ?hr ?_
          case hr => first | (go_simp; done) | (go_simp; rfl)
          intro g1956 hg w1957 hbox hb
          replace HS : Aside0 (Sep (fps []) w [b1 g1700 a1696 a1697 a1698 a1699, b18 g1703 0 0 0 0 0 0 0 0, b2 g1874 a1696 a1697, b18 g1951 0 0 0 0 0 0 0 0, b19 g1956 24 a1698 t1822] w1957) := ⟨HS.out.box hg hbox hb⟩
          clear hg hbox hb
          refine hK.out _ _ (⟨blk_cellv (HS.out.at0) 2 rfl, blk_cellv (HS.out.at0) 0 rfl, blk_cellv (HS.out.at0) 1 rfl⟩) (fun hHeld => ?_)
          clear hK K
          refine norm_ (a' := ?_) ?_ ?_
          rotate_left
          · show Act.put _ (some 20) _ = _
            simp only [Act.put, List.setIfInBounds_toArray, List.set_cons_zero, List.set_cons_succ, i64_w, i32_w]
            rfl
          refine one_ (i := 9) (N := some 21) #[true, true, true, true, true, true, true, true, true, true, true, true, true, false, true, false] rfl rfl (by kernel_rfl) (by decide) (fun K hK => ?_)
          refine goes_ Tryd.func122 (by kernel_rfl) rfl #[.slice (some ⟨g1956, 0, none⟩) 3 3] (by rfl) rfl rfl (by (try simp only [List.map_toArray, List.map_cons, List.map_nil]); first | done | rfl) ?_
          refine (ratio_Add.calls _ [24, a1698, t1822] (some ⟨g1956, 0, none⟩) 3 t1848 _ ⟨Rd.lit (l := []) (xs := [24, a1698, t1822]) HS.out 4 rfl (by simp)⟩ ⟨HGl0.out.pass (l := []) HS.out⟩ ⟨Sep.start _⟩ HA1849).mono ?_
          rintro e_ w1960 ⟨rfl, hS⟩
          replace HS : Aside0 (Sep (fps []) w [b1 g1700 a1696 a1697 a1698 a1699, b18 g1703 0 0 0 0 0 0 0 0, b2 g1874 a1696 a1697, b18 g1951 0 0 0 0 0 0 0 0, b19 g1956 24 a1698 t1822] w1960) := ⟨HS.out.call hS⟩
          clear hS
          refine ⟨_, rfl, ?_⟩
          refine hK.out _ _ (⟨blk_cellv (HS.out.at0) 2 rfl, blk_cellv (HS.out.at0) 0 rfl, blk_cellv (HS.out.at0) 1 rfl⟩) (fun hHeld => ?_)
          clear hK K
          refine norm_ (a' := ?_) ?_ ?_
          rotate_left
          · show Act.put _ (some 21) _ = _
            simp only [Act.put, List.setIfInBounds_toArray, List.set_cons_zero, List.set_cons_succ, i64_w, i32_w]
            rfl
          refine pure_ (i := 13) (N := some 25) (v := ?_) (a' := ?_) #[true, true, true, true, true, true, true, true, true, true, true, true, true, true, true, false] rfl rfl (by kernel_rfl) (fun _ _ _ h => h) (Or.inl ⟨by rfl, ?_⟩) ?_ ?_
          rotate_left
          · intro w'
            go_simp
            with_reducible rfl
          rotate_left
          · simp only [Act.put, List.setIfInBounds_toArray, List.set_cons_zero, List.set_cons_succ, i64_w, i32_w]
            rfl
          refine one_ (i := 15) (N := none) #[true, true, true, true, true, true, true, true, true, true, true, true, true, true, true, true] rfl rfl (by kernel_rfl) (by decide) (fun K hK => ?_)
          have hc1962 := blk_cellv (v := .int .i64 0) (HS.out.at3) 0 rfl
          have hz1963 := blk_fz (HS.out.at3) 0
          have hc1964 := blk_cellv (v := .int .i64 0) (HS.out.at3) 1 rfl
          have hz1965 := blk_fz (HS.out.at3) 1
          have hc1966 := blk_cellv (v := .int .i64 0) (HS.out.at3) 2 rfl
          have hz1967 := blk_fz (HS.out.at3) 2
          have hc1968 := blk_cellv (v := .int .i64 0) (HS.out.at3) 3 rfl
          have hz1969 := blk_fz (HS.out.at3) 3
          have hc1970 := blk_cellv (v := .int .i64 0) (HS.out.at3) 4 rfl
          have hz1971 := blk_fz (HS.out.at3) 4
          have hc1972 := blk_cellv (v := .int .i64 0) (HS.out.at3) 5 rfl
          have hz1973 := blk_fz (HS.out.at3) 5
          have hc1974 := blk_cellv (v := .int .i64 0) (HS.out.at3) 6 rfl
          have hz1975 := blk_fz (HS.out.at3) 6
          have hc1976 := blk_cellv (v := .int .i64 0) (HS.out.at3) 7 rfl
          have hz1977 := blk_fz (HS.out.at3) 7
          refine store_step (w1 := (World.setCell (World.setCell (World.setCell (World.setCell (World.setCell (World.setCell (World.setCell (World.setCell w1960 ⟨g1951, 0, none⟩ (.int .i64 t1848)) ⟨g1951, 1, none⟩ (.int .i64 (wrap64 (a1697 - 8)))) ⟨g1951, 2, none⟩ (.int .i64 0)) ⟨g1951, 3, none⟩ (.int .i64 0)) ⟨g1951, 4, none⟩ (.int .i64 0)) ⟨g1951, 5, none⟩ (.int .i64 0)) ⟨g1951, 6, none⟩ (.int .i64 0)) ⟨g1951, 7, none⟩ (.int .i64 0))) (by rfl) rfl ?hr ?_
          case hr => first | (go_simp; done) | (go_simp; rfl)
          clear hc1962 hz1963 hc1964 hz1965 hc1966 hz1967 hc1968 hz1969 hc1970 hz1971 hc1972 hz1973 hc1974 hz1975 hc1976 hz1977
          intro w1961 hst
          replace HS : Aside0 (Sep (fps []) w [b1 g1700 a1696 a1697 a1698 a1699, b18 g1703 0 0 0 0 0 0 0 0, b2 g1874 a1696 a1697, b18 g1951 t1848 (wrap64 (a1697 - 8)) 0 0 0 0 0 0, b19 g1956 24 a1698 t1822] w1961) := ⟨by rw [hst]; exact HS.out.setAll (l1 := [b1 g1700 a1696 a1697 a1698 a1699, b18 g1703 0 0 0 0 0 0 0 0, b2 g1874 a1696 a1697]) (l2 := [b19 g1956 24 a1698 t1822]) [.int .i64 t1848, .int .i64 (wrap64 (a1697 - 8)), .int .i64 0, .int .i64 0, .int .i64 0, .int .i64 0, .int .i64 0, .int .i64 0] rfl⟩
          clear hst
          refine hK.out _ _ (⟨blk_cellv (HS.out.at0) 2 rfl, blk_cellv (HS.out.at0) 0 rfl, blk_cellv (HS.out.at0) 1 rfl⟩) (fun hHeld => ?_)
          clear hK K
          refine done_ (by kernel_rfl) ?_
          go_wp2_with fail
          go_meet
          case rel => exact ⟨g1874, g1956, g1951, (by first | rfl | (simp [IntKind.wrap_u32]; done)), ⟨(((((HS.out).front 3 (by simp)).front 4 (by simp)).front 4 (by simp)).front 4 (by simp)).front 4 (by simp)⟩⟩
      · refine box_step (by rfl) (N := 5) rfl (cs := #[.int .i64 0, .int .i64 0, .int .i64 0, .int .i64 0, .int .i64 0, .int .i64 0, .int .i64 0, .int .i64 0]) (t := 97) ?hr ?_
        case hr => first | (go_simp; done) | (go_simp; rfl)
        intro g1978 hg w1979 hbox hb
        replace HS : Aside0 (Sep (fps []) w [b1 g1700 a1696 a1697 a1698 a1699, b18 g1703 0 0 0 0 0 0 0 0, b18 g1978 0 0 0 0 0 0 0 0] w1979) := ⟨HS.out.box hg hbox hb⟩
        clear hg hbox hb
        refine hK.out _ _ (⟨blk_cellv (HS.out.at0) 2 rfl, blk_cellv (HS.out.at0) 0 rfl, blk_cellv (HS.out.at0) 1 rfl⟩) (fun hHeld => ?_)
        clear hK K
        refine norm_ (a' := ?_) ?_ ?_
        rotate_left
        · show Act.put _ (some 5) _ = _
          simp only [Act.put, List.setIfInBounds_toArray, List.set_cons_zero, List.set_cons_succ, i64_w, i32_w]
          rfl
        refine one_ (i := 6) (N := some 18) #[true, true, true, true, true, true, true, false, false, false, true, true, true, false, true, false] rfl rfl (by kernel_rfl) (by decide) (fun K hK => ?_)
        refine slice_step (n := 2) (by rfl) (N := 18) rfl (cs := #[.int .i64 a1696, .int .i64 a1697]) (t := 3) ?hr ?_
        case hr => first | (go_simp; done) | (go_simp; rfl)
        intro g1981 hg w1982 hbox hb
        replace HS : Aside0 (Sep (fps []) w [b1 g1700 a1696 a1697 a1698 a1699, b18 g1703 0 0 0 0 0 0 0 0, b18 g1978 0 0 0 0 0 0 0 0, b2 g1981 a1696 a1697] w1982) := ⟨HS.out.box hg hbox hb⟩
        clear hg hbox hb
        refine hK.out _ _ (⟨blk_cellv (HS.out.at0) 2 rfl, blk_cellv (HS.out.at0) 0 rfl, blk_cellv (HS.out.at0) 1 rfl⟩) (fun hHeld => ?_)
        clear hK K
        refine norm_ (a' := ?_) ?_ ?_
        rotate_left
        · show Act.put _ (some 18) _ = _
          simp only [Act.put, List.setIfInBounds_toArray, List.set_cons_zero, List.set_cons_succ, i64_w, i32_w]
          rfl
        refine one_ (i := 7) (N := some 19) #[true, true, true, true, true, true, true, true, false, false, true, true, true, false, true, false] rfl rfl (by kernel_rfl) (by decide) (fun K hK => ?_)
        refine goes_ Tryd.func123 (by kernel_rfl) rfl #[.slice (some ⟨g1981, 0, none⟩) 2 2] (by rfl) rfl rfl (by (try simp only [List.map_toArray, List.map_cons, List.map_nil]); first | done | rfl) ?_
        refine (ratio_Mul.calls _ [a1696, a1697] (some ⟨g1981, 0, none⟩) 2 t1822 _ ⟨Rd.lit (l := []) (xs := [a1696, a1697]) HS.out 3 rfl (by simp)⟩ ⟨HGl0.out.pass (l := []) HS.out⟩ ⟨Sep.start _⟩ HA1823).mono ?_
        rintro e_ w1985 ⟨rfl, hS⟩
        replace HS : Aside0 (Sep (fps []) w [b1 g1700 a1696 a1697 a1698 a1699, b18 g1703 0 0 0 0 0 0 0 0, b18 g1978 0 0 0 0 0 0 0 0, b2 g1981 a1696 a1697] w1985) := ⟨HS.out.call hS⟩
        clear hS
        refine ⟨_, rfl, ?_⟩
        refine hK.out _ _ (⟨blk_cellv (HS.out.at0) 2 rfl, blk_cellv (HS.out.at0) 0 rfl, blk_cellv (HS.out.at0) 1 rfl⟩) (fun hHeld => ?_)
        clear hK K
        refine norm_ (a' := ?_) ?_ ?_
        rotate_left
        · show Act.put _ (some 19) _ = _
          simp only [Act.put, List.setIfInBounds_toArray, List.set_cons_zero, List.set_cons_succ, i64_w, i32_w]
          rfl
        refine one_ (i := 8) (N := some 20) #[true, true, true, true, true, true, true, true, true, false, true, true, true, false, true, false] rfl rfl (by kernel_rfl) (by decide) (fun K hK => ?_)
        refine slice_step (n := 3) (by rfl) (N := 20) rfl (cs := #[.int .i64 24, .int .i64 a1698, .int .i64 t1822]) (t := 3) ?hr ?_
        case hr => first | (go_simp; done) | (go_simp; rfl)
        intro g1986 hg w1987 hbox hb
        replace HS : Aside0 (Sep (fps []) w [b1 g1700 a1696 a1697 a1698 a1699, b18 g1703 0 0 0 0 0 0 0 0, b18 g1978 0 0 0 0 0 0 0 0, b2 g1981 a1696 a1697, b19 g1986 24 a1698 t1822] w1987) := ⟨HS.out.box hg hbox hb⟩
        clear hg hbox hb
        refine hK.out _ _ (⟨blk_cellv (HS.out.at0) 2 rfl, blk_cellv (HS.out.at0) 0 rfl, blk_cellv (HS.out.at0) 1 rfl⟩) (fun hHeld => ?_)
        clear hK K
        refine norm_ (a' := ?_) ?_ ?_
        rotate_left
        · show Act.put _ (some 20) _ = _
          simp only [Act.put, List.setIfInBounds_toArray, List.set_cons_zero, List.set_cons_succ, i64_w, i32_w]
          rfl
        refine one_ (i := 9) (N := some 21) #[true, true, true, true, true, true, true, true, true, true, true, true, true, false, true, false] rfl rfl (by kernel_rfl) (by decide) (fun K hK => ?_)
        refine goes_ Tryd.func122 (by kernel_rfl) rfl #[.slice (some ⟨g1986, 0, none⟩) 3 3] (by rfl) rfl rfl (by (try simp only [List.map_toArray, List.map_cons, List.map_nil]); first | done | rfl) ?_
        refine (ratio_Add.calls _ [24, a1698, t1822] (some ⟨g1986, 0, none⟩) 3 t1848 _ ⟨Rd.lit (l := []) (xs := [24, a1698, t1822]) HS.out 4 rfl (by simp)⟩ ⟨HGl0.out.pass (l := []) HS.out⟩ ⟨Sep.start _⟩ HA1849).mono ?_
        rintro e_ w1990 ⟨rfl, hS⟩
        replace HS : Aside0 (Sep (fps []) w [b1 g1700 a1696 a1697 a1698 a1699, b18 g1703 0 0 0 0 0 0 0 0, b18 g1978 0 0 0 0 0 0 0 0, b2 g1981 a1696 a1697, b19 g1986 24 a1698 t1822] w1990) := ⟨HS.out.call hS⟩
        clear hS
        refine ⟨_, rfl, ?_⟩
        refine hK.out _ _ (⟨blk_cellv (HS.out.at0) 2 rfl, blk_cellv (HS.out.at0) 0 rfl, blk_cellv (HS.out.at0) 1 rfl⟩) (fun hHeld => ?_)
        clear hK K
        refine norm_ (a' := ?_) ?_ ?_
        rotate_left
        · show Act.put _ (some 21) _ = _
          simp only [Act.put, List.setIfInBounds_toArray, List.set_cons_zero, List.set_cons_succ, i64_w, i32_w]
          rfl
        refine pure_ (i := 13) (N := some 25) (v := ?_) (a' := ?_) #[true, true, true, true, true, true, true, true, true, true, true, true, true, true, true, false] rfl rfl (by kernel_rfl) (fun _ _ _ h => h) (Or.inl ⟨by rfl, ?_⟩) ?_ ?_
        rotate_left
        · intro w'
          go_simp
          with_reducible rfl
        rotate_left
        · simp only [Act.put, List.setIfInBounds_toArray, List.set_cons_zero, List.set_cons_succ, i64_w, i32_w]
          rfl
        refine one_ (i := 15) (N := none) #[true, true, true, true, true, true, true, true, true, true, true, true, true, true, true, true] rfl rfl (by kernel_rfl) (by decide) (fun K hK => ?_)
        have hc1992 := blk_cellv (v := .int .i64 0) (HS.out.at2) 0 rfl
        have hz1993 := blk_fz (HS.out.at2) 0
        have hc1994 := blk_cellv (v := .int .i64 0) (HS.out.at2) 1 rfl
        have hz1995 := blk_fz (HS.out.at2) 1
        have hc1996 := blk_cellv (v := .int .i64 0) (HS.out.at2) 2 rfl
        have hz1997 := blk_fz (HS.out.at2) 2
        have hc1998 := blk_cellv (v := .int .i64 0) (HS.out.at2) 3 rfl
        have hz1999 := blk_fz (HS.out.at2) 3
        have hc2000 := blk_cellv (v := .int .i64 0) (HS.out.at2) 4 rfl
        have hz2001 := blk_fz (HS.out.at2) 4
        have hc2002 := blk_cellv (v := .int .i64 0) (HS.out.at2) 5 rfl
        have hz2003 := blk_fz (HS.out.at2) 5
        have hc2004 := blk_cellv (v := .int .i64 0) (HS.out.at2) 6 rfl
        have hz2005 := blk_fz (HS.out.at2) 6
        have hc2006 := blk_cellv (v := .int .i64 0) (HS.out.at2) 7 rfl
        have hz2007 := blk_fz (HS.out.at2) 7
        refine store_step (w1 := (World.setCell (World.setCell (World.setCell (World.setCell (World.setCell (World.setCell (World.setCell (World.setCell w1990 ⟨g1978, 0, none⟩ (.int .i64 t1848)) ⟨g1978, 1, none⟩ (.int .i64 (wrap64 (a1697 - 8)))) ⟨g1978, 2, none⟩ (.int .i64 0)) ⟨g1978, 3, none⟩ (.int .i64 0)) ⟨g1978, 4, none⟩ (.int .i64 0)) ⟨g1978, 5, none⟩ (.int .i64 0)) ⟨g1978, 6, none⟩ (.int .i64 0)) ⟨g1978, 7, none⟩ (.int .i64 0))) (by rfl) rfl ?hr ?_
        case hr => first | (go_simp; done) | (go_simp; rfl)
        clear hc1992 hz1993 hc1994 hz1995 hc1996 hz1997 hc1998 hz1999 hc2000 hz2001 hc2002 hz2003 hc2004 hz2005 hc2006 hz2007
        intro w1991 hst
        replace HS : Aside0 (Sep (fps []) w [b1 g1700 a1696 a1697 a1698 a1699, b18 g1703 0 0 0 0 0 0 0 0, b18 g1978 t1848 (wrap64 (a1697 - 8)) 0 0 0 0 0 0, b2 g1981 a1696 a1697, b19 g1986 24 a1698 t1822] w1991) := ⟨by rw [hst]; exact HS.out.setAll (l1 := [b1 g1700 a1696 a1697 a1698 a1699, b18 g1703 0 0 0 0 0 0 0 0]) (l2 := [b2 g1981 a1696 a1697, b19 g1986 24 a1698 t1822]) [.int .i64 t1848, .int .i64 (wrap64 (a1697 - 8)), .int .i64 0, .int .i64 0, .int .i64 0, .int .i64 0, .int .i64 0, .int .i64 0] rfl⟩
        clear hst
        refine hK.out _ _ (⟨blk_cellv (HS.out.at0) 2 rfl, blk_cellv (HS.out.at0) 0 rfl, blk_cellv (HS.out.at0) 1 rfl⟩) (fun hHeld => ?_)
        clear hK K
        refine done_ (by kernel_rfl) ?_
        go_wp2_with fail
        go_meet
        case rel => exact ⟨g1981, g1986, g1978, (by first | rfl | (simp [IntKind.wrap_u32]; done)), ⟨(((((HS.out).front 2 (by simp)).front 4 (by simp)).front 4 (by simp)).front 4 (by simp)).front 4 (by simp)⟩⟩
    case rest =>
      clear HS
      obtain ⟨g1752, g1825, g1851, rfl, HS⟩ := hcut
      obtain ⟨w1871, rfl⟩ : ∃ x : World, x = wc := ⟨_, rfl⟩
      replace HS : Aside0 (Sep (fps []) w [b1 g1700 a1696 a1697 a1698 a1699, b18 g1703 0 0 0 0 0 0 0 0, b18 g1851 t1848 (wrap64 (a1697 - 8)) 0 0 0 0 0 0] w1871) := ⟨HS.out.sub (.cons_cons _ (.cons_cons _ (.cons _ (.cons _ (.cons_cons _ .slnil)))))⟩
      have hc2008 : w1871.cell? ⟨g1851, 1, none⟩ = some (.int .i64 (wrap64 (a1697 - 8))) := blk_cellv (HS.out.at2) 1 rfl
      have hc2009 : w1871.cell? ⟨g1851, 2, none⟩ = some (.int .i64 0) := blk_cellv (HS.out.at2) 2 rfl
      have hz2010 : w1871.frozen? ⟨g1851, 2, none⟩ = false := blk_fz (HS.out.at2) 2
      go_wp2_with (first | ((with_reducible refine gate_store (t := 3) (p := 29) rfl ?_); refine store_event (w1 := (World.setCell w1871 ⟨g1851, 2, none⟩ (.int .i64 (wrap64 ((wrap64 (a1697 - 8)) + 1))))) rfl (t := 3) (p := 29) rfl rfl ?hr ?_; (case hr => first | (go_simp; done) | (go_simp; rfl)); intro w2011 hst; clear hc2008 hc2009 hz2010; have hq0 : Sep (fps []) w [b1 g1700 a1696 a1697 a1698 a1699, b18 g1703 0 0 0 0 0 0 0 0, b18 g1851 t1848 (wrap64 (a1697 - 8)) (wrap64 ((wrap64 (a1697 - 8)) + 1)) 0 0 0 0 0] (World.setCell w1871 ⟨g1851, 2, none⟩ (.int .i64 (wrap64 ((wrap64 (a1697 - 8)) + 1)))) := (HS.out).set1 (l1 := [b1 g1700 a1696 a1697 a1698 a1699, b18 g1703 0 0 0 0 0 0 0 0]) (l2 := []) 2 (.int .i64 (wrap64 ((wrap64 (a1697 - 8)) + 1))); replace HS : Aside0 (Sep (fps []) w [b1 g1700 a1696 a1697 a1698 a1699, b18 g1703 0 0 0 0 0 0 0 0, b18 g1851 t1848 (wrap64 (a1697 - 8)) (wrap64 ((wrap64 (a1697 - 8)) + 1)) 0 0 0 0 0] w2011) := ⟨by rw [hst]; exact hq0⟩; clear hq0; clear hst; have hc2012 : w2011.cell? ⟨g1851, 1, none⟩ = some (.int .i64 (wrap64 (a1697 - 8))) := blk_cellv (HS.out.at2) 1 rfl; have hc2013 : w2011.cell? ⟨g1700, 1, none⟩ = some (.int .i64 a1697) := blk_cellv (HS.out.at0) 1 rfl) | ((with_reducible refine gate_dst (N := 35) rfl ?_); refine slice_on (n := 2) ?hg (N := 35) ?hd (cs := #[.int .i64 (wrap64 (a1697 - 8)), .int .i64 (wrap64 (a1697 - 1))]) (t := 3) ?hr ?_; (case hd => rfl); (case hg => rfl); (case hr => first | (go_simp; done) | (go_simp; rfl)); intro g2014 hg w2015 hbox hb; clear hc2012 hc2013; replace HS : Aside0 (Sep (fps []) w [b1 g1700 a1696 a1697 a1698 a1699, b18 g1703 0 0 0 0 0 0 0 0, b18 g1851 t1848 (wrap64 (a1697 - 8)) (wrap64 ((wrap64 (a1697 - 8)) + 1)) 0 0 0 0 0, b2 g2014 (wrap64 (a1697 - 8)) (wrap64 (a1697 - 1))] w2015) := ⟨HS.out.box hg hbox hb⟩; clear hg hbox hb))
      obtain ⟨t2017, HA2018, H⟩ := bind_some H
      refine (ratio_Mul.calls _ [wrap64 (a1697 - 8), wrap64 (a1697 - 1)] (some ⟨g2014, 0, none⟩) 2 t2017 _ ⟨Rd.lit (l := []) (xs := [wrap64 (a1697 - 8), wrap64 (a1697 - 1)]) HS.out 3 rfl (by simp)⟩ ⟨HGl0.out.pass (l := []) HS.out⟩ ⟨Sep.start _⟩ HA2018).mono ?_
      rintro e_ w2019 ⟨rfl, hS⟩
      replace HS : Aside0 (Sep (fps []) w [b1 g1700 a1696 a1697 a1698 a1699, b18 g1703 0 0 0 0 0 0 0 0, b18 g1851 t1848 (wrap64 (a1697 - 8)) (wrap64 ((wrap64 (a1697 - 8)) + 1)) 0 0 0 0 0, b2 g2014 (wrap64 (a1697 - 8)) (wrap64 (a1697 - 1))] w2019) := ⟨HS.out.call hS⟩
      clear hS
      have hc2020 : w2019.cell? ⟨g1851, 3, none⟩ = some (.int .i64 0) := blk_cellv (HS.out.at2) 3 rfl
      have hz2021 : w2019.frozen? ⟨g1851, 3, none⟩ = false := blk_fz (HS.out.at2) 3
      go_wp2_with (first | ((with_reducible refine gate_store (t := 3) (p := 37) rfl ?_); refine store_event (w1 := (World.setCell w2019 ⟨g1851, 3, none⟩ (.int .i64 t2017))) rfl (t := 3) (p := 37) rfl rfl ?hr ?_; (case hr => first | (go_simp; done) | (go_simp; rfl)); intro w2022 hst; clear hc2020 hz2021; have hq0 : Sep (fps []) w [b1 g1700 a1696 a1697 a1698 a1699, b18 g1703 0 0 0 0 0 0 0 0, b18 g1851 t1848 (wrap64 (a1697 - 8)) (wrap64 ((wrap64 (a1697 - 8)) + 1)) t2017 0 0 0 0, b2 g2014 (wrap64 (a1697 - 8)) (wrap64 (a1697 - 1))] (World.setCell w2019 ⟨g1851, 3, none⟩ (.int .i64 t2017)) := (HS.out).set1 (l1 := [b1 g1700 a1696 a1697 a1698 a1699, b18 g1703 0 0 0 0 0 0 0 0]) (l2 := [b2 g2014 (wrap64 (a1697 - 8)) (wrap64 (a1697 - 1))]) 3 (.int .i64 t2017); replace HS : Aside0 (Sep (fps []) w [b1 g1700 a1696 a1697 a1698 a1699, b18 g1703 0 0 0 0 0 0 0 0, b18 g1851 t1848 (wrap64 (a1697 - 8)) (wrap64 ((wrap64 (a1697 - 8)) + 1)) t2017 0 0 0 0, b2 g2014 (wrap64 (a1697 - 8)) (wrap64 (a1697 - 1))] w2022) := ⟨by rw [hst]; exact hq0⟩; clear hq0; clear hst; replace HS : Aside0 (Sep (fps []) w [b1 g1700 a1696 a1697 a1698 a1699, b18 g1703 0 0 0 0 0 0 0 0, b18 g1851 t1848 (wrap64 (a1697 - 8)) (wrap64 ((wrap64 (a1697 - 8)) + 1)) t2017 0 0 0 0] w2022) := ⟨HS.out.sub (.cons_cons _ (.cons_cons _ (.cons_cons _ (.cons _ .slnil))))⟩; have hc2023 : w2022.cell? ⟨g1700, 0, none⟩ = some (.int .i64 a1696) := blk_cellv (HS.out.at0) 0 rfl; have hc2024 : w2022.cell? ⟨g1700, 1, none⟩ = some (.int .i64 a1697) := blk_cellv (HS.out.at0) 1 rfl) | ((with_reducible refine gate_dst (N := 43) rfl ?_); refine slice_on (n := 2) ?hg (N := 43) ?hd (cs := #[.int .i64 a1696, .int .i64 (wrap64 (a1697 + 1))]) (t := 3) ?hr ?_; (case hd => rfl); (case hg => rfl); (case hr => first | (go_simp; done) | (go_simp; rfl)); intro g2025 hg w2026 hbox hb; clear hc2023 hc2024; replace HS : Aside0 (Sep (fps []) w [b1 g1700 a1696 a1697 a1698 a1699, b18 g1703 0 0 0 0 0 0 0 0, b18 g1851 t1848 (wrap64 (a1697 - 8)) (wrap64 ((wrap64 (a1697 - 8)) + 1)) t2017 0 0 0 0, b2 g2025 a1696 (wrap64 (a1697 + 1))] w2026) := ⟨HS.out.box hg hbox hb⟩; clear hg hbox hb))
      obtain ⟨t2028, HA2029, H⟩ := bind_some H
      refine (ratio_Mul.calls _ [a1696, wrap64 (a1697 + 1)] (some ⟨g2025, 0, none⟩) 2 t2028 _ ⟨Rd.lit (l := []) (xs := [a1696, wrap64 (a1697 + 1)]) HS.out 3 rfl (by simp)⟩ ⟨HGl0.out.pass (l := []) HS.out⟩ ⟨Sep.start _⟩ HA2029).mono ?_
      rintro e_ w2030 ⟨rfl, hS⟩
      replace HS : Aside0 (Sep (fps []) w [b1 g1700 a1696 a1697 a1698 a1699, b18 g1703 0 0 0 0 0 0 0 0, b18 g1851 t1848 (wrap64 (a1697 - 8)) (wrap64 ((wrap64 (a1697 - 8)) + 1)) t2017 0 0 0 0, b2 g2025 a1696 (wrap64 (a1697 + 1))] w2030) := ⟨HS.out.call hS⟩
      clear hS
      have hc2031 : w2030.cell? ⟨g1851, 5, none⟩ = some (.int .i64 0) := blk_cellv (HS.out.at2) 5 rfl
      have hz2032 : w2030.frozen? ⟨g1851, 5, none⟩ = false := blk_fz (HS.out.at2) 5
      go_wp2_with (first | ((with_reducible refine gate_store (t := 3) (p := 45) rfl ?_); refine store_event (w1 := (World.setCell w2030 ⟨g1851, 5, none⟩ (.int .i64 t2028))) rfl (t := 3) (p := 45) rfl rfl ?hr ?_; (case hr => first | (go_simp; done) | (go_simp; rfl)); intro w2033 hst; clear hc2031 hz2032; have hq0 : Sep (fps []) w [b1 g1700 a1696 a1697 a1698 a1699, b18 g1703 0 0 0 0 0 0 0 0, b18 g1851 t1848 (wrap64 (a1697 - 8)) (wrap64 ((wrap64 (a1697 - 8)) + 1)) t2017 0 t2028 0 0, b2 g2025 a1696 (wrap64 (a1697 + 1))] (World.setCell w2030 ⟨g1851, 5, none⟩ (.int .i64 t2028)) := (HS.out).set1 (l1 := [b1 g1700 a1696 a1697 a1698 a1699, b18 g1703 0 0 0 0 0 0 0 0]) (l2 := [b2 g2025 a1696 (wrap64 (a1697 + 1))]) 5 (.int .i64 t2028); replace HS : Aside0 (Sep (fps []) w [b1 g1700 a1696 a1697 a1698 a1699, b18 g1703 0 0 0 0 0 0 0 0, b18 g1851 t1848 (wrap64 (a1697 - 8)) (wrap64 ((wrap64 (a1697 - 8)) + 1)) t2017 0 t2028 0 0, b2 g2025 a1696 (wrap64 (a1697 + 1))] w2033) := ⟨by rw [hst]; exact hq0⟩; clear hq0; clear hst; replace HS : Aside0 (Sep (fps []) w [b1 g1700 a1696 a1697 a1698 a1699, b18 g1703 0 0 0 0 0 0 0 0, b18 g1851 t1848 (wrap64 (a1697 - 8)) (wrap64 ((wrap64 (a1697 - 8)) + 1)) t2017 0 t2028 0 0] w2033) := ⟨HS.out.sub (.cons_cons _ (.cons_cons _ (.cons_cons _ (.cons _ .slnil))))⟩; have hc2034 : w2033.cell? ⟨g1851, 5, none⟩ = some (.int .i64 t2028) := blk_cellv (HS.out.at2) 5 rfl) | ((with_reducible refine gate_dst (N := 48) rfl ?_); refine slice_on (n := 2) ?hg (N := 48) ?hd (cs := #[.int .i64 3, .int .i64 t2028]) (t := 3) ?hr ?_; (case hd => rfl); (case hg => rfl); (case hr => first | (go_simp; done) | (go_simp; rfl)); intro g2035 hg w2036 hbox hb; clear hc2034; replace HS : Aside0 (Sep (fps []) w [b1 g1700 a1696 a1697 a1698 a1699, b18 g1703 0 0 0 0 0 0 0 0, b18 g1851 t1848 (wrap64 (a1697 - 8)) (wrap64 ((wrap64 (a1697 - 8)) + 1)) t2017 0 t2028 0 0, b2 g2035 3 t2028] w2036) := ⟨HS.out.box hg hbox hb⟩; clear hg hbox hb))
      obtain ⟨t2038, HA2039, H⟩ := bind_some H
      refine (ratio_Mul.calls _ [3, t2028] (some ⟨g2035, 0, none⟩) 2 t2038 _ ⟨Rd.lit (l := []) (xs := [3, t2028]) HS.out 3 rfl (by simp)⟩ ⟨HGl0.out.pass (l := []) HS.out⟩ ⟨Sep.start _⟩ HA2039).mono ?_
      rintro e_ w2040 ⟨rfl, hS⟩
      replace HS : Aside0 (Sep (fps []) w [b1 g1700 a1696 a1697 a1698 a1699, b18 g1703 0 0 0 0 0 0 0 0, b18 g1851 t1848 (wrap64 (a1697 - 8)) (wrap64 ((wrap64 (a1697 - 8)) + 1)) t2017 0 t2028 0 0, b2 g2035 3 t2028] w2040) := ⟨HS.out.call hS⟩
      clear hS
      go_wp2_with (first | ((with_reducible refine gate_dst (N := 50) rfl ?_); refine slice_on (n := 2) ?hg (N := 50) ?hd (cs := #[.int .i64 t2038, .int .i64 4]) (t := 3) ?hr ?_; (case hd => rfl); (case hg => rfl); (case hr => first | (go_simp; done) | (go_simp; rfl)); intro g2041 hg w2042 hbox hb; replace HS : Aside0 (Sep (fps []) w [b1 g1700 a1696 a1697 a1698 a1699, b18 g1703 0 0 0 0 0 0 0 0, b18 g1851 t1848 (wrap64 (a1697 - 8)) (wrap64 ((wrap64 (a1697 - 8)) + 1)) t2017 0 t2028 0 0, b2 g2035 3 t2028, b2 g2041 t2038 4] w2042) := ⟨HS.out.box hg hbox hb⟩; clear hg hbox hb))
      obtain ⟨t2044, HA2045, H⟩ := bind_some H
      refine (ratio_Add.calls _ [t2038, 4] (some ⟨g2041, 0, none⟩) 2 t2044 _ ⟨Rd.lit (l := []) (xs := [t2038, 4]) HS.out 4 rfl (by simp)⟩ ⟨HGl0.out.pass (l := []) HS.out⟩ ⟨Sep.start _⟩ HA2045).mono ?_
      rintro e_ w2046 ⟨rfl, hS⟩
      replace HS : Aside0 (Sep (fps []) w [b1 g1700 a1696 a1697 a1698 a1699, b18 g1703 0 0 0 0 0 0 0 0, b18 g1851 t1848 (wrap64 (a1697 - 8)) (wrap64 ((wrap64 (a1697 - 8)) + 1)) t2017 0 t2028 0 0, b2 g2035 3 t2028, b2 g2041 t2038 4] w2046) := ⟨HS.out.call hS⟩
      clear hS
      have hc2047 : w2046.cell? ⟨g1851, 4, none⟩ = some (.int .i64 0) := blk_cellv (HS.out.at2) 4 rfl
      have hz2048 : w2046.frozen? ⟨g1851, 4, none⟩ = false := blk_fz (HS.out.at2) 4
      go_wp2_with (first | ((with_reducible refine gate_store (t := 3) (p := 52) rfl ?_); refine store_event (w1 := (World.setCell w2046 ⟨g1851, 4, none⟩ (.int .i64 t2044))) rfl (t := 3) (p := 52) rfl rfl ?hr ?_; (case hr => first | (go_simp; done) | (go_simp; rfl)); intro w2049 hst; clear hc2047 hz2048; have hq0 : Sep (fps []) w [b1 g1700 a1696 a1697 a1698 a1699, b18 g1703 0 0 0 0 0 0 0 0, b18 g1851 t1848 (wrap64 (a1697 - 8)) (wrap64 ((wrap64 (a1697 - 8)) + 1)) t2017 t2044 t2028 0 0, b2 g2035 3 t2028, b2 g2041 t2038 4] (World.setCell w2046 ⟨g1851, 4, none⟩ (.int .i64 t2044)) := (HS.out).set1 (l1 := [b1 g1700 a1696 a1697 a1698 a1699, b18 g1703 0 0 0 0 0 0 0 0]) (l2 := [b2 g2035 3 t2028, b2 g2041 t2038 4]) 4 (.int .i64 t2044); replace HS : Aside0 (Sep (fps []) w [b1 g1700 a1696 a1697 a1698 a1699, b18 g1703 0 0 0 0 0 0 0 0, b18 g1851 t1848 (wrap64 (a1697 - 8)) (wrap64 ((wrap64 (a1697 - 8)) + 1)) t2017 t2044 t2028 0 0, b2 g2035 3 t2028, b2 g2041 t2038 4] w2049) := ⟨by rw [hst]; exact hq0⟩; clear hq0; clear hst; replace HS : Aside0 (Sep (fps []) w [b1 g1700 a1696 a1697 a1698 a1699, b18 g1703 0 0 0 0 0 0 0 0, b18 g1851 t1848 (wrap64 (a1697 - 8)) (wrap64 ((wrap64 (a1697 - 8)) + 1)) t2017 t2044 t2028 0 0] w2049) := ⟨HS.out.sub (.cons_cons _ (.cons_cons _ (.cons_cons _ (.cons _ (.cons _ .slnil)))))⟩))
      obtain ⟨t2052, HA2053, H⟩ := bind_some H
      obtain ⟨t2058, HA2059, H⟩ := bind_some H
      obtain ⟨t2064, HA2065, H⟩ := bind_some H
      obtain ⟨t2070, HA2071, H⟩ := bind_some H
      go_cut [] (fun wc => ∃ (g2055 : Nat) (g2061 : Nat) (g2067 : Nat), Aside0 (Sep (fps []) w [b1 g1700 a1696 a1697 a1698 a1699, b18 g1703 0 0 0 0 0 0 0 0, b18 g1851 t1848 (wrap64 (a1697 - 8)) (wrap64 ((wrap64 (a1697 - 8)) + 1)) t2017 t2044 t2028 t2070 0, b2 g2055 2 t2052, b2 g2061 2 (wrap64 ((wrap64 (a1697 - 8)) + 1)), b2 g2067 t2058 t2064] wc))
      case first =>
        go_wp2_with fail
        refine start_ (n := 15) (S := (fun w' => w'.cell? ⟨g1851, 4, none⟩ = some (.int .i64 t2044) ∧ w'.cell? ⟨g1700, 3, none⟩ = some (.int .i64 a1699) ∧ w'.cell? ⟨g1851, 2, none⟩ = some (.int .i64 (wrap64 ((wrap64 (a1697 - 8)) + 1))))) (ds := []) #[false, false, false, false, false, false, false, false, false, false, false, false, false, false, false] (by kernel_rfl) rfl rfl (⟨blk_cellv ((HS.out.drew).at2) 4 rfl, blk_cellv ((HS.out.drew).at0) 3 rfl, blk_cellv ((HS.out.drew).at2) 2 rfl⟩) (fun hHeld => ?_)
        have HS_ := Aside0.mk HS.out.drew
        clear HS
        generalize World.drew _ = w2078 at HS_ hHeld ⊢
        have HS := HS_
        clear HS_
        refine pure_ (i := 0) (N := some 53) (v := ?_) (a' := ?_) #[true, false, false, false, false, false, false, false, false, false, false, false, false, false, false] rfl rfl (by kernel_rfl) (fun _ _ _ h => h) (Or.inl ⟨by rfl, ?_⟩) ?_ ?_
        rotate_left
        · intro w'
          go_simp
          with_reducible rfl
        rotate_left
        · simp only [Act.put, List.setIfInBounds_toArray, List.set_cons_zero, List.set_cons_succ, i64_w, i32_w]
          rfl
        refine pure_ (i := 2) (N := some 55) (v := ?_) (a' := ?_) #[true, false, true, false, false, false, false, false, false, false, false, false, false, false, false] rfl rfl (by kernel_rfl) (fun _ _ _ h => h) (Or.inl ⟨by rfl, ?_⟩) ?_ ?_
        rotate_left
        · intro w'
          go_simp
          with_reducible rfl
        rotate_left
        · simp only [Act.put, List.setIfInBounds_toArray, List.set_cons_zero, List.set_cons_succ, i64_w, i32_w]
          rfl
        refine pure_ (i := 7) (N := some 60) (v := ?_) (a' := ?_) #[true, false, true, false, false, false, false, true, false, false, false, false, false, false, false] rfl rfl (by kernel_rfl) (fun _ _ _ h => h) (Or.inl ⟨by rfl, ?_⟩) ?_ ?_
        rotate_left
        · intro w'
          go_simp
          with_reducible rfl
        rotate_left
        · simp only [Act.put, List.setIfInBounds_toArray, List.set_cons_zero, List.set_cons_succ, i64_w, i32_w]
          rfl
        refine take_ (i := 1) (N := some 54) (v := ?_) (a' := ?_) #[true, true, true, false, false, false, false, true, false, false, false, false, false, false, false] rfl rfl (by kernel_rfl) (fun _ _ _ h => h) (Or.inl ⟨by rfl, ?_⟩) hHeld ?_ ?_
        rotate_left
        · rintro w' hS'
          obtain ⟨s0, s1, s2⟩ := hS'
          go_simp
          with_reducible rfl
        rotate_left
        · simp only [Act.put, List.setIfInBounds_toArray, List.set_cons_zero, List.set_cons_succ, i64_w, i32_w]
          rfl
        refine take_ (i := 3) (N := some 56) (v := ?_) (a' := ?_) #[true, true, true, true, false, false, false, true, false, false, false, false, false, false, false] rfl rfl (by kernel_rfl) (fun _ _ _ h => h) (Or.inl ⟨by rfl, ?_⟩) hHeld ?_ ?_
        rotate_left
        · rintro w' hS'
          obtain ⟨s0, s1, s2⟩ := hS'
          go_simp
          with_reducible rfl
        rotate_left
        · simp only [Act.put, List.setIfInBounds_toArray, List.set_cons_zero, List.set_cons_succ, i64_w, i32_w]
          rfl
        refine take_ (i := 8) (N := some 61) (v := ?_) (a' := ?_) #[true, true, true, true, false, false, false, true, true, false, false, false, false, false, false] rfl rfl (by kernel_rfl) (fun _ _ _ h => h) (Or.inl ⟨by rfl, ?_⟩) hHeld ?_ ?_
        rotate_left
        · rintro w' hS'
          obtain ⟨s0, s1, s2⟩ := hS'
          go_simp
          with_reducible rfl
        rotate_left
        · simp only [Act.put, List.setIfInBounds_toArray, List.set_cons_zero, List.set_cons_succ, i64_w, i32_w]
          rfl
        refine two_ (i := 4) (j := 9) (Ni := some 57) (Nj := some 62) #[true, true, true, true, true, false, false, true, true, false, false, false, false, false, false] #[true, true, true, true, false, false, false, true, true, true, false, false, false, false, false] rfl rfl rfl rfl (by kernel_rfl) (by decide) (by decide) (fun K hK => ?_) (fun K hK => ?_)
        · refine goes_ Tryd.func124 (by kernel_rfl) rfl #[.int .i64 t2044, .int .i64 a1699] (by rfl) rfl rfl (by (try simp only [List.map_toArray, List.map_cons, List.map_nil]); first | done | rfl) ?_
          refine (ratio_Up.calls t2044 a1699 t2052 _ ⟨HGl0.out.pass (l := []) HS.out⟩ ⟨Sep.start _⟩ HA2053).mono ?_
          rintro e_ w2080 ⟨rfl, hS⟩
          replace HS : Aside0 (Sep (fps []) w [b1 g1700 a1696 a1697 a1698 a1699, b18 g1703 0 0 0 0 0 0 0 0, b18 g1851 t1848 (wrap64 (a1697 - 8)) (wrap64 ((wrap64 (a1697 - 8)) + 1)) t2017 t2044 t2028 0 0] w2080) := ⟨HS.out.call hS⟩
          clear hS
          refine ⟨_, rfl, ?_⟩
          refine hK.out _ _ (⟨blk_cellv (HS.out.at2) 4 rfl, blk_cellv (HS.out.at0) 3 rfl, blk_cellv (HS.out.at2) 2 rfl⟩) (fun hHeld => ?_)
          clear hK K
          refine norm_ (a' := ?_) ?_ ?_
          rotate_left
          · show Act.put _ (some 57) _ = _
            simp only [Act.put, List.setIfInBounds_toArray, List.set_cons_zero, List.set_cons_succ, i64_w, i32_w]
            rfl
          refine two_ (i := 5) (j := 9) (Ni := some 58) (Nj := some 62) #[true, true, true, true, true, true, false, true, true, false, false, false, false, false, false] #[true, true, true, true, true, false, false, true, true, true, false, false, false, false, false] rfl rfl rfl rfl (by kernel_rfl) (by decide) (by decide) (fun K hK => ?_) (fun K hK => ?_)
          · refine slice_step (n := 2) (by rfl) (N := 58) rfl (cs := #[.int .i64 2, .int .i64 t2052]) (t := 3) ?hr ?_
            case hr => first | (go_simp; done) | (go_simp; rfl)
            intro g2081 hg w2082 hbox hb
            replace HS : Aside0 (Sep (fps []) w [b1 g1700 a1696 a1697 a1698 a1699, b18 g1703 0 0 0 0 0 0 0 0, b18 g1851 t1848 (wrap64 (a1697 - 8)) (wrap64 ((wrap64 (a1697 - 8)) + 1)) t2017 t2044 t2028 0 0, b2 g2081 2 t2052] w2082) := ⟨HS.out.box hg hbox hb⟩
            clear hg hbox hb
            refine hK.out _ _ (⟨blk_cellv (HS.out.at2) 4 rfl, blk_cellv (HS.out.at0) 3 rfl, blk_cellv (HS.out.at2) 2 rfl⟩) (fun hHeld => ?_)
            clear hK K
            refine norm_ (a' := ?_) ?_ ?_
            rotate_left
            · show Act.put _ (some 58) _ = _
              simp only [Act.put, List.setIfInBounds_toArray, List.set_cons_zero, List.set_cons_succ, i64_w, i32_w]
              rfl
            refine two_ (i := 6) (j := 9) (Ni := some 59) (Nj := some 62) #[true, true, true, true, true, true, true, true, true, false, false, false, false, false, false] #[true, true, true, true, true, true, false, true, true, true, false, false, false, false, false] rfl rfl rfl rfl (by kernel_rfl) (by decide) (by decide) (fun K hK => ?_) (fun K hK => ?_)
            · refine goes_ Tryd.func123 (by kernel_rfl) rfl #[.slice (some ⟨g2081, 0, none⟩) 2 2] (by rfl) rfl rfl (by (try simp only [List.map_toArray, List.map_cons, List.map_nil]); first | done | rfl) ?_
              refine (ratio_Mul.calls _ [2, t2052] (some ⟨g2081, 0, none⟩) 2 t2058 _ ⟨Rd.lit (l := []) (xs := [2, t2052]) HS.out 3 rfl (by simp)⟩ ⟨HGl0.out.pass (l := []) HS.out⟩ ⟨Sep.start _⟩ HA2059).mono ?_
              rintro e_ w2085 ⟨rfl, hS⟩
              replace HS : Aside0 (Sep (fps []) w [b1 g1700 a1696 a1697 a1698 a1699, b18 g1703 0 0 0 0 0 0 0 0, b18 g1851 t1848 (wrap64 (a1697 - 8)) (wrap64 ((wrap64 (a1697 - 8)) + 1)) t2017 t2044 t2028 0 0, b2 g2081 2 t2052] w2085) := ⟨HS.out.call hS⟩
              clear hS
              refine ⟨_, rfl, ?_⟩
              refine hK.out _ _ (⟨blk_cellv (HS.out.at2) 4 rfl, blk_cellv (HS.out.at0) 3 rfl, blk_cellv (HS.out.at2) 2 rfl⟩) (fun hHeld => ?_)
              clear hK K
              refine norm_ (a' := ?_) ?_ ?_
              rotate_left
              · show Act.put _ (some 59) _ = _
                simp only [Act.put, List.setIfInBounds_toArray, List.set_cons_zero, List.set_cons_succ, i64_w, i32_w]
                rfl
              refine one_ (i := 9) (N := some 62) #[true, true, true, true, true, true, true, true, true, true, false, false, false, false, false] rfl rfl (by kernel_rfl) (by decide) (fun K hK => ?_)
              refine slice_step (n := 2) (by rfl) (N := 62) rfl (cs := #[.int .i64 2, .int .i64 (wrap64 ((wrap64 (a1697 - 8)) + 1))]) (t := 3) ?hr ?_
              case hr => first | (go_simp; done) | (go_simp; rfl)
              intro g2086 hg w2087 hbox hb
              replace HS : Aside0 (Sep (fps []) w [b1 g1700 a1696 a1697 a1698 a1699, b18 g1703 0 0 0 0 0 0 0 0, b18 g1851 t1848 (wrap64 (a1697 - 8)) (wrap64 ((wrap64 (a1697 - 8)) + 1)) t2017 t2044 t2028 0 0, b2 g2081 2 t2052, b2 g2086 2 (wrap64 ((wrap64 (a1697 - 8)) + 1))] w2087) := ⟨HS.out.box hg hbox hb⟩
              clear hg hbox hb
              refine hK.out _ _ (⟨blk_cellv (HS.out.at2) 4 rfl, blk_cellv (HS.out.at0) 3 rfl, blk_cellv (HS.out.at2) 2 rfl⟩) (fun hHeld => ?_)
              clear hK K
              refine norm_ (a' := ?_) ?_ ?_
              rotate_left
              · show Act.put _ (some 62) _ = _
                simp only [Act.put, List.setIfInBounds_toArray, List.set_cons_zero, List.set_cons_succ, i64_w, i32_w]
                rfl
              refine one_ (i := 10) (N := some 63) #[true, true, true, true, true, true, true, true, true, true, true, false, false, false, false] rfl rfl (by kernel_rfl) (by decide) (fun K hK => ?_)
              refine goes_ Tryd.func123 (by kernel_rfl) rfl #[.slice (some ⟨g2086, 0, none⟩) 2 2] (by rfl) rfl rfl (by (try simp only [List.map_toArray, List.map_cons, List.map_nil]); first | done | rfl) ?_
              refine (ratio_Mul.calls _ [2, wrap64 ((wrap64 (a1697 - 8)) + 1)] (some ⟨g2086, 0, none⟩) 2 t2064 _ ⟨Rd.lit (l := []) (xs := [2, wrap64 ((wrap64 (a1697 - 8)) + 1)]) HS.out 4 rfl (by simp)⟩ ⟨HGl0.out.pass (l := []) HS.out⟩ ⟨Sep.start _⟩ HA2065).mono ?_
              rintro e_ w2090 ⟨rfl, hS⟩
              replace HS : Aside0 (Sep (fps []) w [b1 g1700 a1696 a1697 a1698 a1699, b18 g1703 0 0 0 0 0 0 0 0, b18 g1851 t1848 (wrap64 (a1697 - 8)) (wrap64 ((wrap64 (a1697 - 8)) + 1)) t2017 t2044 t2028 0 0, b2 g2081 2 t2052, b2 g2086 2 (wrap64 ((wrap64 (a1697 - 8)) + 1))] w2090) := ⟨HS.out.call hS⟩
              clear hS
              refine ⟨_, rfl, ?_⟩
              refine hK.out _ _ (⟨blk_cellv (HS.out.at2) 4 rfl, blk_cellv (HS.out.at0) 3 rfl, blk_cellv (HS.out.at2) 2 rfl⟩) (fun hHeld => ?_)
              clear hK K
              refine norm_ (a' := ?_) ?_ ?_
              rotate_left
              · show Act.put _ (some 63) _ = _
                simp only [Act.put, List.setIfInBounds_toArray, List.set_cons_zero, List.set_cons_succ, i64_w, i32_w]
                rfl
              refine one_ (i := 11) (N := some 64) #[true, true, true, true, true, true, true, true, true, true, true, true, false, false, false] rfl rfl (by kernel_rfl) (by decide) (fun K hK => ?_)
              refine slice_step (n := 2) (by rfl) (N := 64) rfl (cs := #[.int .i64 t2058, .int .i64 t2064]) (t := 3) ?hr ?_
              case hr => first | (go_simp; done) | (go_simp; rfl)
              intro g2091 hg w2092 hbox hb
              replace HS : Aside0 (Sep (fps []) w [b1 g1700 a1696 a1697 a1698 a1699, b18 g1703 0 0 0 0 0 0 0 0, b18 g1851 t1848 (wrap64 (a1697 - 8)) (wrap64 ((wrap64 (a1697 - 8)) + 1)) t2017 t2044 t2028 0 0, b2 g2081 2 t2052, b2 g2086 2 (wrap64 ((wrap64 (a1697 - 8)) + 1)), b2 g2091 t2058 t2064] w2092) := ⟨HS.out.box hg hbox hb⟩
              clear hg hbox hb
              refine hK.out _ _ (⟨blk_cellv (HS.out.at2) 4 rfl, blk_cellv (HS.out.at0) 3 rfl, blk_cellv (HS.out.at2) 2 rfl⟩) (fun hHeld => ?_)
              clear hK K
              refine norm_ (a' := ?_) ?_ ?_
              rotate_left
              · show Act.put _ (some 64) _ = _
                simp only [Act.put, List.setIfInBounds_toArray, List.set_cons_zero, List.set_cons_succ, i64_w, i32_w]
                rfl
              refine one_ (i := 12) (N := some 65) #[true, true, true, true, true, true, true, true, true, true, true, true, true, false, false] rfl rfl (by kernel_rfl) (by decide) (fun K hK => ?_)
              refine goes_ Tryd.func122 (by kernel_rfl) rfl #[.slice (some ⟨g2091, 0, none⟩) 2 2] (by rfl) rfl rfl (by (try simp only [List.map_toArray, List.map_cons, List.map_nil]); first | done | rfl) ?_
              refine (ratio_Add.calls _ [t2058, t2064] (some ⟨g2091, 0, none⟩) 2 t2070 _ ⟨Rd.lit (l := []) (xs := [t2058, t2064]) HS.out 5 rfl (by simp)⟩ ⟨HGl0.out.pass (l := []) HS.out⟩ ⟨Sep.start _⟩ HA2071).mono ?_
              rintro e_ w2095 ⟨rfl, hS⟩
              replace HS : Aside0 (Sep (fps []) w [b1 g1700 a1696 a1697 a1698 a1699, b18 g1703 0 0 0 0 0 0 0 0, b18 g1851 t1848 (wrap64 (a1697 - 8)) (wrap64 ((wrap64 (a1697 - 8)) + 1)) t2017 t2044 t2028 0 0, b2 g2081 2 t2052, b2 g2086 2 (wrap64 ((wrap64 (a1697 - 8)) + 1)), b2 g2091 t2058 t2064] w2095) := ⟨HS.out.call hS⟩
              clear hS
              refine ⟨_, rfl, ?_⟩
              refine hK.out _ _ (⟨blk_cellv (HS.out.at2) 4 rfl, blk_cellv (HS.out.at0) 3 rfl, blk_cellv (HS.out.at2) 2 rfl⟩) (fun hHeld => ?_)
              clear hK K
              refine norm_ (a' := ?_) ?_ ?_
              rotate_left
              · show Act.put _ (some 65) _ = _
                simp only [Act.put, List.setIfInBounds_toArray, List.set_cons_zero, List.set_cons_succ, i64_w, i32_w]
                rfl
              refine pure_ (i := 13) (N := some 66) (v := ?_) (a' := ?_) #[true, true, true, true, true, true, true, true, true, true, true, true, true, true, false] rfl rfl (by kernel_rfl) (fun _ _ _ h => h) (Or.inl ⟨by rfl, ?_⟩) ?_ ?_
              rotate_left
              · intro w'
                go_simp
                with_reducible rfl
              rotate_left
              · simp only [Act.put, List.setIfInBounds_toArray, List.set_cons_zero, List.set_cons_succ, i64_w, i32_w]
                rfl
              refine one_ (i := 14) (N := none) #[true, true, true, true, true, true, true, true, true, true, true, true, true, true, true] rfl rfl (by kernel_rfl) (by decide) (fun K hK => ?_)
              have hc2097 := blk_cellv (v := .int .i64 0) (HS.out.at2) 6 rfl
              have hz2098 := blk_fz (HS.out.at2) 6
              refine store_step (w1 := (World.setCell w2095 ⟨g1851, 6, none⟩ (.int .i64 t2070))) (by rfl) rfl ?hr ?_
              case hr => first | (go_simp; done) | (go_simp; rfl)
              clear hc2097 hz2098
              intro w2096 hst
              have hq0 : Sep (fps []) w [b1 g1700 a1696 a1697 a1698 a1699, b18 g1703 0 0 0 0 0 0 0 0, b18 g1851 t1848 (wrap64 (a1697 - 8)) (wrap64 ((wrap64 (a1697 - 8)) + 1)) t2017 t2044 t2028 t2070 0, b2 g2081 2 t2052, b2 g2086 2 (wrap64 ((wrap64 (a1697 - 8)) + 1)), b2 g2091 t2058 t2064] (World.setCell w2095 ⟨g1851, 6, none⟩ (.int .i64 t2070)) := (HS.out).set1 (l1 := [b1 g1700 a1696 a1697 a1698 a1699, b18 g1703 0 0 0 0 0 0 0 0]) (l2 := [b2 g2081 2 t2052, b2 g2086 2 (wrap64 ((wrap64 (a1697 - 8)) + 1)), b2 g2091 t2058 t2064]) 6 (.int .i64 t2070)
              have HS_ : Aside0 (Sep (fps []) w [b1 g1700 a1696 a1697 a1698 a1699, b18 g1703 0 0 0 0 0 0 0 0, b18 g1851 t1848 (wrap64 (a1697 - 8)) (wrap64 ((wrap64 (a1697 - 8)) + 1)) t2017 t2044 t2028 t2070 0, b2 g2081 2 t2052, b2 g2086 2 (wrap64 ((wrap64 (a1697 - 8)) + 1)), b2 g2091 t2058 t2064] w2096) := ⟨by rw [hst]; exact hq0⟩
              clear hq0
              clear HS hst
              have HS := HS_
              clear HS_
              refine hK.out _ _ (⟨blk_cellv (HS.out.at2) 4 rfl, blk_cellv (HS.out.at0) 3 rfl, blk_cellv (HS.out.at2) 2 rfl⟩) (fun hHeld => ?_)
              clear hK K
              refine done_ (by kernel_rfl) ?_
              go_wp2_with fail
              go_meet
              case rel => exact ⟨g2081, g2086, g2091, ⟨((((((HS.out).front 5 (by simp)).front 5 (by simp)).front 5 (by simp)).front 5 (by simp)).front 5 (by simp)).front 5 (by simp)⟩⟩
            · refine slice_step (n := 2) (by rfl) (N := 62) rfl (cs := #[.int .i64 2, .int .i64 (wrap64 ((wrap64 (a1697 - 8)) + 1))]) (t := 3) ?hr ?_
              case hr => first | (go_simp; done) | (go_simp; rfl)
              intro g2099 hg w2100 hbox hb
              replace HS : Aside0 (Sep (fps []) w [b1 g1700 a1696 a1697 a1698 a1699, b18 g1703 0 0 0 0 0 0 0 0, b18 g1851 t1848 (wrap64 (a1697 - 8)) (wrap64 ((wrap64 (a1697 - 8)) + 1)) t2017 t2044 t2028 0 0, b2 g2081 2 t2052, b2 g2099 2 (wrap64 ((wrap64 (a1697 - 8)) + 1))] w2100) := ⟨HS.out.box hg hbox hb⟩
              clear hg hbox hb
              refine hK.out _ _ (⟨blk_cellv (HS.out.at2) 4 rfl, blk_cellv (HS.out.at0) 3 rfl, blk_cellv (HS.out.at2) 2 rfl⟩) (fun hHeld => ?_)
              clear hK K
              refine norm_ (a' := ?_) ?_ ?_
              rotate_left
              · show Act.put _ (some 62) _ = _
                simp only [Act.put, List.setIfInBounds_toArray, List.set_cons_zero, List.set_cons_succ, i64_w, i32_w]
                rfl
              refine one_ (i := 6) (N := some 59) #[true, true, true, true, true, true, true, true, true, true, false, false, false, false, false] rfl rfl (by kernel_rfl) (by decide) (fun K hK => ?_)
              refine goes_ Tryd.func123 (by kernel_rfl) rfl #[.slice (some ⟨g2081, 0, none⟩) 2 2] (by rfl) rfl rfl (by (try simp only [List.map_toArray, List.map_cons, List.map_nil]); first | done | rfl) ?_
              refine (ratio_Mul.calls _ [2, t2052] (some ⟨g2081, 0, none⟩) 2 t2058 _ ⟨Rd.lit (l := []) (xs := [2, t2052]) HS.out 3 rfl (by simp)⟩ ⟨HGl0.out.pass (l := []) HS.out⟩ ⟨Sep.start _⟩ HA2059).mono ?_
              rintro e_ w2103 ⟨rfl, hS⟩
              replace HS : Aside0 (Sep (fps []) w [b1 g1700 a1696 a1697 a1698 a1699, b18 g1703 0 0 0 0 0 0 0 0, b18 g1851 t1848 (wrap64 (a1697 - 8)) (wrap64 ((wrap64 (a1697 - 8)) + 1)) t2017 t2044 t2028 0 0, b2 g2081 2 t2052, b2 g2099 2 (wrap64 ((wrap64 (a1697 - 8)) + 1))] w2103) := ⟨HS.out.call hS⟩
              clear hS
              refine ⟨_, rfl, ?_⟩
              refine hK.out _ _ (⟨blk_cellv (HS.out.at2) 4 rfl, blk_cellv (HS.out.at0) 3 rfl, blk_cellv (HS.out.at2) 2 rfl⟩) (fun hHeld => ?_)
              clear hK K
              refine norm_ (a' := ?_) ?_ ?_
              rotate_left
              · show Act.put _ (some 59) _ = _
                simp only [Act.put, List.setIfInBounds_toArray, List.set_cons_zero, List.set_cons_succ, i64_w, i32_w]
                rfl
              refine one_ (i := 10) (N := some 63) #[true, true, true, true, true, true, true, true, true, true, true, false, false, false, false] rfl rfl (by kernel_rfl) (by decide) (fun K hK => ?_)
              refine goes_ Tryd.func123 (by kernel_rfl) rfl #[.slice (some ⟨g2099, 0, none⟩) 2 2] (by rfl) rfl rfl (by (try simp only [List.map_toArray, List.map_cons, List.map_nil]); first | done | rfl) ?_
              refine (ratio_Mul.calls _ [2, wrap64 ((wrap64 (a1697 - 8)) + 1)] (some ⟨g2099, 0, none⟩) 2 t2064 _ ⟨Rd.lit (l := []) (xs := [2, wrap64 ((wrap64 (a1697 - 8)) + 1)]) HS.out 4 rfl (by simp)⟩ ⟨HGl0.out.pass (l := []) HS.out⟩ ⟨Sep.start _⟩ HA2065).mono ?_
              rintro e_ w2105 ⟨rfl, hS⟩
              replace HS : Aside0 (Sep (fps []) w [b1 g1700 a1696 a1697 a1698 a1699, b18 g1703 0 0 0 0 0 0 0 0, b18 g1851 t1848 (wrap64 (a1697 - 8)) (wrap64 ((wrap64 (a1697 - 8)) + 1)) t2017 t2044 t2028 0 0, b2 g2081 2 t2052, b2 g2099 2 (wrap64 ((wrap64 (a1697 - 8)) + 1))] w2105) := ⟨HS.out.call hS⟩
              clear hS
              refine ⟨_, rfl, ?_⟩
              refine hK.out _ _ (⟨blk_cellv (HS.out.at2) 4 rfl, blk_cellv (HS.out.at0) 3 rfl, blk_cellv (HS.out.at2) 2 rfl⟩) (fun hHeld => ?_)
              clear hK K
              refine norm_ (a' := ?_) ?_ ?_
              rotate_left
              · show Act.put _ (some 63) _ = _
                simp only [Act.put, List.setIfInBounds_toArray, List.set_cons_zero, List.set_cons_succ, i64_w, i32_w]
                rfl
              refine one_ (i := 11) (N := some 64) #[true, true, true, true, true, true, true, true, true, true, true, true, false, false, false] rfl rfl (by kernel_rfl) (by decide) (fun K hK => ?_)
              refine slice_step (n := 2) (by rfl) (N := 64) rfl (cs := #[.int .i64 t2058, .int .i64 t2064]) (t := 3) ?hr ?_
              case hr => first | (go_simp; done) | (go_simp; rfl)
              intro g2106 hg w2107 hbox hb
              replace HS : Aside0 (Sep (fps []) w [b1 g1700 a1696 a1697 a1698 a1699, b18 g1703 0 0 0 0 0 0 0 0, b18 g1851 t1848 (wrap64 (a1697 - 8)) (wrap64 ((wrap64 (a1697 - 8)) + 1)) t2017 t2044 t2028 0 0, b2 g2081 2 t2052, b2 g2099 2 (wrap64 ((wrap64 (a1697 - 8)) + 1)), b2 g2106 t2058 t2064] w2107) := ⟨HS.out.box hg hbox hb⟩
              clear hg hbox hb
              refine hK.out _ _ (⟨blk_cellv (HS.out.at2) 4 rfl, blk_cellv (HS.out.at0) 3 rfl, blk_cellv (HS.out.at2) 2 rfl⟩) (fun hHeld => ?_)
              clear hK K
              refine norm_ (a' := ?_) ?_ ?_
              rotate_left
              · show Act.put _ (some 64) _ = _
                simp only [Act.put, List.setIfInBounds_toArray, List.set_cons_zero, List.set_cons_succ, i64_w, i32_w]
                rfl
              refine one_ (i := 12) (N := some 65) #[true, true, true, true, true, true, true, true, true, true, true, true, true, false, false] rfl rfl (by kernel_rfl) (by decide) (fun K hK => ?_)
              refine goes_ Tryd.func122 (by kernel_rfl) rfl #[.slice (some ⟨g2106, 0, none⟩) 2 2] (by rfl) rfl rfl (by (try simp only [List.map_toArray, List.map_cons, List.map_nil]); first | done | rfl) ?_
              refine (ratio_Add.calls _ [t2058, t2064] (some ⟨g2106, 0, none⟩) 2 t2070 _ ⟨Rd.lit (l := []) (xs := [t2058, t2064]) HS.out 5 rfl (by simp)⟩ ⟨HGl0.out.pass (l := []) HS.out⟩ ⟨Sep.start _⟩ HA2071).mono ?_
              rintro e_ w2110 ⟨rfl, hS⟩
              replace HS : Aside0 (Sep (fps []) w [b1 g1700 a1696 a1697 a1698 a1699, b18 g1703 0 0 0 0 0 0 0 0, b18 g1851 t1848 (wrap64 (a1697 - 8)) (wrap64 ((wrap64 (a1697 - 8)) + 1)) t2017 t2044 t2028 0 0, b2 g2081 2 t2052, b2 g2099 2 (wrap64 ((wrap64 (a1697 - 8)) + 1)), b2 g2106 t2058 t2064] w2110) := ⟨HS.out.call hS⟩
              clear hS
              refine ⟨_, rfl, ?_⟩
              refine hK.out _ _ (⟨blk_cellv (HS.out.at2) 4 rfl, blk_cellv (HS.out.at0) 3 rfl, blk_cellv (HS.out.at2) 2 rfl⟩) (fun hHeld => ?_)
              clear hK K
              refine norm_ (a' := ?_) ?_ ?_
              rotate_left
              · show Act.put _ (some 65) _ = _
                simp only [Act.put, List.setIfInBounds_toArray, List.set_cons_zero, List.set_cons_succ, i64_w, i32_w]
                rfl
              refine pure_ (i := 13) (N := some 66) (v := ?_) (a' := ?_) #[true, true, true, true, true, true, true, true, true, true, true, true, true, true, false] rfl rfl (by kernel_rfl) (fun _ _ _ h => h) (Or.inl ⟨by rfl, ?_⟩) ?_ ?_
              rotate_left
              · intro w'
                go_simp
                with_reducible rfl
              rotate_left
              · simp only [Act.put, List.setIfInBounds_toArray, List.set_cons_zero, List.set_cons_succ, i64_w, i32_w]
                rfl
              refine one_ (i := 14) (N := none) #[true, true, true, true, true, true, true, true, true, true, true, true, true, true, true] rfl rfl (by kernel_rfl) (by decide) (fun K hK => ?_)
              have hc2112 := blk_cellv (v := .int .i64 0) (HS.out.at2) 6 rfl
              have hz2113 := blk_fz (HS.out.at2) 6
              refine store_step (w1 := (World.setCell w2110 ⟨g1851, 6, none⟩ (.int .i64 t2070))) (by rfl) rfl ?hr ?_
              case hr => first | (go_simp; done) | (go_simp; rfl)
              clear hc2112 hz2113
              intro w2111 hst
              have hq0 : Sep (fps []) w [b1 g1700 a1696 a1697 a1698 a1699, b18 g1703 0 0 0 0 0 0 0 0, b18 g1851 t1848 (wrap64 (a1697 - 8)) (wrap64 ((wrap64 (a1697 - 8)) + 1)) t2017 t2044 t2028 t2070 0, b2 g2081 2 t2052, b2 g2099 2 (wrap64 ((wrap64 (a1697 - 8)) + 1)), b2 g2106 t2058 t2064] (World.setCell w2110 ⟨g1851, 6, none⟩ (.int .i64 t2070)) := (HS.out).set1 (l1 := [b1 g1700 a1696 a1697 a1698 a1699, b18 g1703 0 0 0 0 0 0 0 0]) (l2 := [b2 g2081 2 t2052, b2 g2099 2 (wrap64 ((wrap64 (a1697 - 8)) + 1)), b2 g2106 t2058 t2064]) 6 (.int .i64 t2070)
              have HS_ : Aside0 (Sep (fps []) w [b1 g1700 a1696 a1697 a1698 a1699, b18 g1703 0 0 0 0 0 0 0 0, b18 g1851 t1848 (wrap64 (a1697 - 8)) (wrap64 ((wrap64 (a1697 - 8)) + 1)) t2017 t2044 t2028 t2070 0, b2 g2081 2 t2052, b2 g2099 2 (wrap64 ((wrap64 (a1697 - 8)) + 1)), b2 g2106 t2058 t2064] w2111) := ⟨by rw [hst]; exact hq0⟩
              clear hq0
              clear HS hst
              have HS := HS_
              clear HS_
              refine hK.out _ _ (⟨blk_cellv (HS.out.at2) 4 rfl, blk_cellv (HS.out.at0) 3 rfl, blk_cellv (HS.out.at2) 2 rfl⟩) (fun hHeld => ?_)
              clear hK K
              refine done_ (by kernel_rfl) ?_
              go_wp2_with fail
              go_meet
              case rel => exact ⟨g2081, g2099, g2106, ⟨((((((HS.out).front 5 (by simp)).front 5 (by simp)).front 5 (by simp)).front 5 (by simp)).front 5 (by simp)).front 5 (by simp)⟩⟩
          · refine slice_step (n := 2) (by rfl) (N := 62) rfl (cs := #[.int .i64 2, .int .i64 (wrap64 ((wrap64 (a1697 - 8)) + 1))]) (t := 3) ?hr ?_
            case hr => first | (go_simp; done) | (go_simp; rfl)
            intro g2114 hg w2115 hbox hb
            replace HS : Aside0 (Sep (fps []) w [b1 g1700 a1696 a1697 a1698 a1699, b18 g1703 0 0 0 0 0 0 0 0, b18 g1851 t1848 (wrap64 (a1697 - 8)) (wrap64 ((wrap64 (a1697 - 8)) + 1)) t2017 t2044 t2028 0 0, b2 g2114 2 (wrap64 ((wrap64 (a1697 - 8)) + 1))] w2115) := ⟨HS.out.box hg hbox hb⟩
            clear hg hbox hb
            refine hK.out _ _ (⟨blk_cellv (HS.out.at2) 4 rfl, blk_cellv (HS.out.at0) 3 rfl, blk_cellv (HS.out.at2) 2 rfl⟩) (fun hHeld => ?_)
            clear hK K
            refine norm_ (a' := ?_) ?_ ?_
            rotate_left
            · show Act.put _ (some 62) _ = _
              simp only [Act.put, List.setIfInBounds_toArray, List.set_cons_zero, List.set_cons_succ, i64_w, i32_w]
              rfl
            refine one_ (i := 5) (N := some 58) #[true, true, true, true, true, true, false, true, true, true, false, false, false, false, false] rfl rfl (by kernel_rfl) (by decide) (fun K hK => ?_)
            refine slice_step (n := 2) (by rfl) (N := 58) rfl (cs := #[.int .i64 2, .int .i64 t2052]) (t := 3) ?hr ?_
            case hr => first | (go_simp; done) | (go_simp; rfl)
            intro g2117 hg w2118 hbox hb
            replace HS : Aside0 (Sep (fps []) w [b1 g1700 a1696 a1697 a1698 a1699, b18 g1703 0 0 0 0 0 0 0 0, b18 g1851 t1848 (wrap64 (a1697 - 8)) (wrap64 ((wrap64 (a1697 - 8)) + 1)) t2017 t2044 t2028 0 0, b2 g2114 2 (wrap64 ((wrap64 (a1697 - 8)) + 1)), b2 g2117 2 t2052] w2118) := ⟨HS.out.box hg hbox hb⟩
            clear hg hbox hb
            refine hK.out _ _ (⟨blk_cellv (HS.out.at2) 4 rfl, blk_cellv (HS.out.at0) 3 rfl, blk_cellv (HS.out.at2) 2 rfl⟩) (fun hHeld => ?_)
            clear hK K
            refine norm_ (a' := ?_) ?_ ?_
            rotate_left
            · show Act.put _ (some 58) _ = _
              simp only [Act.put, List.setIfInBounds_toArray, List.set_cons_zero, List.set_cons_succ, i64_w, i32_w]
              rfl
            refine one_ (i := 6) (N := some 59) #[true, true, true, true, true, true, true, true, true, true, false, false, false, false, false] rfl rfl (by kernel_rfl) (by decide) (fun K hK => ?_)
            refine goes_ Tryd.func123 (by kernel_rfl) rfl #[.slice (some ⟨g2117, 0, none⟩) 2 2] (by rfl) rfl rfl (by (try simp only [List.map_toArray, List.map_cons, List.map_nil]); first | done | rfl) ?_
            refine (ratio_Mul.calls _ [2, t2052] (some ⟨g2117, 0, none⟩) 2 t2058 _ ⟨Rd.lit (l := []) (xs := [2, t2052]) HS.out 4 rfl (by simp)⟩ ⟨HGl0.out.pass (l := []) HS.out⟩ ⟨Sep.start _⟩ HA2059).mono ?_
            rintro e_ w2121 ⟨rfl, hS⟩
            replace HS : Aside0 (Sep (fps []) w [b1 g1700 a1696 a1697 a1698 a1699, b18 g1703 0 0 0 0 0 0 0 0, b18 g1851 t1848 (wrap64 (a1697 - 8)) (wrap64 ((wrap64 (a1697 - 8)) + 1)) t2017 t2044 t2028 0 0, b2 g2114 2 (wrap64 ((wrap64 (a1697 - 8)) + 1)), b2 g2117 2 t2052] w2121) := ⟨HS.out.call hS⟩
            clear hS
            refine ⟨_, rfl, ?_⟩
            refine hK.out _ _ (⟨blk_cellv (HS.out.at2) 4 rfl, blk_cellv (HS.out.at0) 3 rfl, blk_cellv (HS.out.at2) 2 rfl⟩) (fun hHeld => ?_)
            clear hK K
            refine norm_ (a' := ?_) ?_ ?_
            rotate_left
            · show Act.put _ (some 59) _ = _
              simp only [Act.put, List.setIfInBounds_toArray, List.set_cons_zero, List.set_cons_succ, i64_w, i32_w]
              rfl
            refine one_ (i := 10) (N := some 63) #[true, true, true, true, true, true, true, true, true, true, true, false, false, false, false] rfl rfl (by kernel_rfl) (by decide) (fun K hK => ?_)
            refine goes_ Tryd.func123 (by kernel_rfl) rfl #[.slice (some ⟨g2114, 0, none⟩) 2 2] (by rfl) rfl rfl (by (try simp only [List.map_toArray, List.map_cons, List.map_nil]); first | done | rfl) ?_
            refine (ratio_Mul.calls _ [2, wrap64 ((wrap64 (a1697 - 8)) + 1)] (some ⟨g2114, 0, none⟩) 2 t2064 _ ⟨Rd.lit (l := []) (xs := [2, wrap64 ((wrap64 (a1697 - 8)) + 1)]) HS.out 3 rfl (by simp)⟩ ⟨HGl0.out.pass (l := []) HS.out⟩ ⟨Sep.start _⟩ HA2065).mono ?_
            rintro e_ w2123 ⟨rfl, hS⟩
            replace HS : Aside0 (Sep (fps []) w [b1 g1700 a1696 a1697 a1698 a1699, b18 g1703 0 0 0 0 0 0 0 0, b18 g1851 t1848 (wrap64 (a1697 - 8)) (wrap64 ((wrap64 (a1697 - 8)) + 1)) t2017 t2044 t2028 0 0, b2 g2114 2 (wrap64 ((wrap64 (a1697 - 8)) + 1)), b2 g2117 2 t2052] w2123) := ⟨HS.out.call hS⟩
            clear hS
            refine ⟨_, rfl, ?_⟩
            refine hK.out _ _ (⟨blk_cellv (HS.out.at2) 4 rfl, blk_cellv (HS.out.at0) 3 rfl, blk_cellv (HS.out.at2) 2 rfl⟩) (fun hHeld => ?_)
            clear hK K
            refine norm_ (a' := ?_) ?_ ?_
            rotate_left
            · show Act.put _ (some 63) _ = _
              simp only [Act.put, List.setIfInBounds_toArray, List.set_cons_zero, List.set_cons_succ, i64_w, i32_w]
              rfl
            refine one_ (i := 11) (N := some 64) #[true, true, true, true, true, true, true, true, true, true, true, true, false, false, false] rfl rfl (by kernel_rfl) (by decide) (fun K hK => ?_)
            refine slice_step (n := 2) (by rfl) (N := 64) rfl (cs := #[.int .i64 t2058, .int .i64 t2064]) (t := 3) ?hr ?_
            case hr => first | (go_simp; done) | (go_simp; rfl)
            intro g2124 hg w2125 hbox hb
            replace HS : Aside0 (Sep (fps []) w [b1 g1700 a1696 a1697 a1698 a1699, b18 g1703 0 0 0 0 0 0 0 0, b18 g1851 t1848 (wrap64 (a1697 - 8)) (wrap64 ((wrap64 (a1697 - 8)) + 1)) t2017 t2044 t2028 0 0, b2 g2114 2 (wrap64 ((wrap64 (a1697 - 8)) + 1)), b2 g2117 2 t2052, b2 g2124 t2058 t2064] w2125) := ⟨HS.out.box hg hbox hb⟩
            clear hg hbox hb
            refine hK.out _ _ (⟨blk_cellv (HS.out.at2) 4 rfl, blk_cellv (HS.out.at0) 3 rfl, blk_cellv (HS.out.at2) 2 rfl⟩) (fun hHeld => ?_)
            clear hK K
            refine norm_ (a' := ?_) ?_ ?_
            rotate_left
            · show Act.put _ (some 64) _ = _
              simp only [Act.put, List.setIfInBounds_toArray, List.set_cons_zero, List.set_cons_succ, i64_w, i32_w]
              rfl
            refine one_ (i := 12) (N := some 65) #[true, true, true, true, true, true, true, true, true, true, true, true, true, false, false] rfl rfl (by kernel_rfl) (by decide) (fun K hK => ?_)
            refine goes_ Tryd.func122 (by kernel_rfl) rfl #[.slice (some ⟨g2124, 0, none⟩) 2 2] (by rfl) rfl rfl (by (try simp only [List.map_toArray, List.map_cons, List.map_nil]); first | done | rfl) ?_
            refine (ratio_Add.calls _ [t2058, t2064] (some ⟨g2124, 0, none⟩) 2 t2070 _ ⟨Rd.lit (l := []) (xs := [t2058, t2064]) HS.out 5 rfl (by simp)⟩ ⟨HGl0.out.pass (l := []) HS.out⟩ ⟨Sep.start _⟩ HA2071).mono ?_
            rintro e_ w2128 ⟨rfl, hS⟩
            replace HS : Aside0 (Sep (fps []) w [b1 g1700 a1696 a1697 a1698 a1699, b18 g1703 0 0 0 0 0 0 0 0, b18 g1851 t1848 (wrap64 (a1697 - 8)) (wrap64 ((wrap64 (a1697 - 8)) + 1)) t2017 t2044 t2028 0 0, b2 g2114 2 (wrap64 ((wrap64 (a1697 - 8)) + 1)), b2 g2117 2 t2052, b2 g2124 t2058 t2064] w2128) := ⟨HS.out.call hS⟩
            clear hS
            refine ⟨_, rfl, ?_⟩
            refine hK.out _ _ (⟨blk_cellv (HS.out.at2) 4 rfl, blk_cellv (HS.out.at0) 3 rfl, blk_cellv (HS.out.at2) 2 rfl⟩) (fun hHeld => ?_)
            clear hK K
            refine norm_ (a' := ?_) ?_ ?_
            rotate_left
            · show Act.put _ (some 65) _ = _
              simp only [Act.put, List.setIfInBounds_toArray, List.set_cons_zero, List.set_cons_succ, i64_w, i32_w]
              rfl
            refine pure_ (i := 13) (N := some 66) (v := ?_) (a' := ?_) #[true, true, true, true, true, true, true, true, true, true, true, true, true, true, false] rfl rfl (by kernel_rfl) (fun _ _ _ h => h) (Or.inl ⟨by rfl, ?_⟩) ?_ ?_
            rotate_left
            · intro w'
              go_simp
              with_reducible rfl
            rotate_left
            · simp only [Act.put, List.setIfInBounds_toArray, List.set_cons_zero, List.set_cons_succ, i64_w, i32_w]
              rfl
            refine one_ (i := 14) (N := none) #[true, true, true, true, true, true, true, true, true, true, true, true, true, true, true] rfl rfl (by kernel_rfl) (by decide) (fun K hK => ?_)
            have hc2130 := blk_cellv (v := .int .i64 0) (HS.out.at2) 6 rfl
            have hz2131 := blk_fz (HS.out.at2) 6
            refine store_step (w1 := (World.setCell w2128 ⟨g1851, 6, none⟩ (.int .i64 t2070))) (by rfl) rfl ?hr ?_
            case hr => first | (go_simp; done) | (go_simp; rfl)
            clear hc2130 hz2131
            intro w2129 hst
            have hq0 : Sep (fps []) w [b1 g1700 a1696 a1697 a1698 a1699, b18 g1703 0 0 0 0 0 0 0 0, b18 g1851 t1848 (wrap64 (a1697 - 8)) (wrap64 ((wrap64 (a1697 - 8)) + 1)) t2017 t2044 t2028 t2070 0, b2 g2114 2 (wrap64 ((wrap64 (a1697 - 8)) + 1)), b2 g2117 2 t2052, b2 g2124 t2058 t2064] (World.setCell w2128 ⟨g1851, 6, none⟩ (.int .i64 t2070)) := (HS.out).set1 (l1 := [b1 g1700 a1696 a1697 a1698 a1699, b18 g1703 0 0 0 0 0 0 0 0]) (l2 := [b2 g2114 2 (wrap64 ((wrap64 (a1697 - 8)) + 1)), b2 g2117 2 t2052, b2 g2124 t2058 t2064]) 6 (.int .i64 t2070)
            have HS_ : Aside0 (Sep (fps []) w [b1 g1700 a1696 a1697 a1698 a1699, b18 g1703 0 0 0 0 0 0 0 0, b18 g1851 t1848 (wrap64 (a1697 - 8)) (wrap64 ((wrap64 (a1697 - 8)) + 1)) t2017 t2044 t2028 t2070 0, b2 g2114 2 (wrap64 ((wrap64 (a1697 - 8)) + 1)), b2 g2117 2 t2052, b2 g2124 t2058 t2064] w2129) := ⟨by rw [hst]; exact hq0⟩
            clear hq0
            clear HS hst
            have HS := HS_
            clear HS_
            refine hK.out _ _ (⟨blk_cellv (HS.out.at2) 4 rfl, blk_cellv (HS.out.at0) 3 rfl, blk_cellv (HS.out.at2) 2 rfl⟩) (fun hHeld => ?_)
            clear hK K
            refine done_ (by kernel_rfl) ?_
            go_wp2_with fail
            go_meet
            case rel => exact ⟨g2117, g2114, g2124, ⟨((((((HS.out).front 5 (by simp)).front 4 (by simp)).front 5 (by simp)).front 5 (by simp)).front 5 (by simp)).front 5 (by simp)⟩⟩
        · refine slice_step (n := 2) (by rfl) (N := 62) rfl (cs := #[.int .i64 2, .int .i64 (wrap64 ((wrap64 (a1697 - 8)) + 1))]) (t := 3) ?hr ?_
          case hr => first | (go_simp; done) | (go_simp; rfl)
          intro g2132 hg w2133 hbox hb
          replace HS : Aside0 (Sep (fps []) w [b1 g1700 a1696 a1697 a1698 a1699, b18 g1703 0 0 0 0 0 0 0 0, b18 g1851 t1848 (wrap64 (a1697 - 8)) (wrap64 ((wrap64 (a1697 - 8)) + 1)) t2017 t2044 t2028 0 0, b2 g2132 2 (wrap64 ((wrap64 (a1697 - 8)) + 1))] w2133) := ⟨HS.out.box hg hbox hb⟩
          clear hg hbox hb
          refine hK.out _ _ (⟨blk_cellv (HS.out.at2) 4 rfl, blk_cellv (HS.out.at0) 3 rfl, blk_cellv (HS.out.at2) 2 rfl⟩) (fun hHeld => ?_)
          clear hK K
          refine norm_ (a' := ?_) ?_ ?_
          rotate_left
          · show Act.put _ (some 62) _ = _
            simp only [Act.put, List.setIfInBounds_toArray, List.set_cons_zero, List.set_cons_succ, i64_w, i32_w]
            rfl
          refine one_ (i := 4) (N := some 57) #[true, true, true, true, true, false, false, true, true, true, false, false, false, false, false] rfl rfl (by kernel_rfl) (by decide) (fun K hK => ?_)
          refine goes_ Tryd.func124 (by kernel_rfl) rfl #[.int .i64 t2044, .int .i64 a1699] (by rfl) rfl rfl (by (try simp only [List.map_toArray, List.map_cons, List.map_nil]); first | done | rfl) ?_
          refine (ratio_Up.calls t2044 a1699 t2052 _ ⟨HGl0.out.pass (l := []) HS.out⟩ ⟨Sep.start _⟩ HA2053).mono ?_
          rintro e_ w2136 ⟨rfl, hS⟩
          replace HS : Aside0 (Sep (fps []) w [b1 g1700 a1696 a1697 a1698 a1699, b18 g1703 0 0 0 0 0 0 0 0, b18 g1851 t1848 (wrap64 (a1697 - 8)) (wrap64 ((wrap64 (a1697 - 8)) + 1)) t2017 t2044 t2028 0 0, b2 g2132 2 (wrap64 ((wrap64 (a1697 - 8)) + 1))] w2136) := ⟨HS.out.call hS⟩
          clear hS
          refine ⟨_, rfl, ?_⟩
          refine hK.out _ _ (⟨blk_cellv (HS.out.at2) 4 rfl, blk_cellv (HS.out.at0) 3 rfl, blk_cellv (HS.out.at2) 2 rfl⟩) (fun hHeld => ?_)
          clear hK K
          refine norm_ (a' := ?_) ?_ ?_
          rotate_left
          · show Act.put _ (some 57) _ = _
            simp only [Act.put, List.setIfInBounds_toArray, List.set_cons_zero, List.set_cons_succ, i64_w, i32_w]
            rfl
          refine one_ (i := 5) (N := some 58) #[true, true, true, true, true, true, false, true, true, true, false, false, false, false, false] rfl rfl (by kernel_rfl) (by decide) (fun K hK => ?_)
          refine slice_step (n := 2) (by rfl) (N := 58) rfl (cs := #[.int .i64 2, .int .i64 t2052]) (t := 3) ?hr ?_
          case hr => first | (go_simp; done) | (go_simp; rfl)
          intro g2137 hg w2138 hbox hb
          replace HS : Aside0 (Sep (fps []) w [b1 g1700 a1696 a1697 a1698 a1699, b18 g1703 0 0 0 0 0 0 0 0, b18 g1851 t1848 (wrap64 (a1697 - 8)) (wrap64 ((wrap64 (a1697 - 8)) + 1)) t2017 t2044 t2028 0 0, b2 g2132 2 (wrap64 ((wrap64 (a1697 - 8)) + 1)), b2 g2137 2 t2052] w2138) := ⟨HS.out.box hg hbox hb⟩
          clear hg hbox hb
          refine hK.out _ _ (⟨blk_cellv (HS.out.at2) 4 rfl, blk_cellv (HS.out.at0) 3 rfl, blk_cellv (HS.out.at2) 2 rfl⟩) (fun hHeld => ?_)
          clear hK K
          refine norm_ (a' := ?_) ?_ ?_
          rotate_left
          · show Act.put _ (some 58) _ = _
            simp only [Act.put, List.setIfInBounds_toArray, List.set_cons_zero, List.set_cons_succ, i64_w, i32_w]
            rfl
          refine one_ (i := 6) (N := some 59) #[true, true, true, true, true, true, true, true, true, true, false, false, false, false, false] rfl rfl (by kernel_rfl) (by decide) (fun K hK => ?_)
          refine goes_ Tryd.func123 (by kernel_rfl) rfl #[.slice (some ⟨g2137, 0, none⟩) 2 2] (by rfl) rfl rfl (by (try simp only [List.map_toArray, List.map_cons, List.map_nil]); first | done | rfl) ?_
          refine (ratio_Mul.calls _ [2, t2052] (some ⟨g2137, 0, none⟩) 2 t2058 _ ⟨Rd.lit (l := []) (xs := [2, t2052]) HS.out 4 rfl (by simp)⟩ ⟨HGl0.out.pass (l := []) HS.out⟩ ⟨Sep.start _⟩ HA2059).mono ?_
          rintro e_ w2141 ⟨rfl, hS⟩
          replace HS : Aside0 (Sep (fps []) w [b1 g1700 a1696 a1697 a1698 a1699, b18 g1703 0 0 0 0 0 0 0 0, b18 g1851 t1848 (wrap64 (a1697 - 8)) (wrap64 ((wrap64 (a1697 - 8)) + 1)) t2017 t2044 t2028 0 0, b2 g2132 2 (wrap64 ((wrap64 (a1697 - 8)) + 1)), b2 g2137 2 t2052] w2141) := ⟨HS.out.call hS⟩
          clear hS
          refine ⟨_, rfl, ?_⟩
          refine hK.out _ _ (⟨blk_cellv (HS.out.at2) 4 rfl, blk_cellv (HS.out.at0) 3 rfl, blk_cellv (HS.out.at2) 2 rfl⟩) (fun hHeld => ?_)
          clear hK K
          refine norm_ (a' := ?_) ?_ ?_
          rotate_left
          · show Act.put _ (some 59) _ = _
            simp only [Act.put, List.setIfInBounds_toArray, List.set_cons_zero, List.set_cons_succ, i64_w, i32_w]
            rfl
          refine one_ (i := 10) (N := some 63) #[true, true, true, true, true, true, true, true, true, true, true, false, false, false, false] rfl rfl (by kernel_rfl) (by decide) (fun K hK => ?_)
          refine goes_ Tryd.func123 (by kernel_rfl) rfl #[.slice (some ⟨g2132, 0, none⟩) 2 2] (by rfl) rfl rfl (by (try simp only [List.map_toArray, List.map_cons, List.map_nil]); first | done | rfl) ?_
          refine (ratio_Mul.calls _ [2, wrap64 ((wrap64 (a1697 - 8)) + 1)] (some ⟨g2132, 0, none⟩) 2 t2064 _ ⟨Rd.lit (l := []) (xs := [2, wrap64 ((wrap64 (a1697 - 8)) + 1)]) HS.out 3 rfl (by simp)⟩ ⟨HGl0.out.pass (l := []) HS.out⟩ ⟨Sep.start _⟩ HA2065).mono ?_
          rintro e_ w2143 ⟨rfl, hS⟩
          replace HS : Aside0 (Sep (fps []) w [b1 g1700 a1696 a1697 a1698 a1699, b18 g1703 0 0 0 0 0 0 0 0, b18 g1851 t1848 (wrap64 (a1697 - 8)) (wrap64 ((wrap64 (a1697 - 8)) + 1)) t2017 t2044 t2028 0 0, b2 g2132 2 (wrap64 ((wrap64 (a1697 - 8)) + 1)), b2 g2137 2 t2052] w2143) := ⟨HS.out.call hS⟩
          clear hS
          refine ⟨_, rfl, ?_⟩
          refine hK.out _ _ (⟨blk_cellv (HS.out.at2) 4 rfl, blk_cellv (HS.out.at0) 3 rfl, blk_cellv (HS.out.at2) 2 rfl⟩) (fun hHeld => ?_)
          clear hK K
          refine norm_ (a' := ?_) ?_ ?_
          rotate_left
          · show Act.put _ (some 63) _ = _
            simp only [Act.put, List.setIfInBounds_toArray, List.set_cons_zero, List.set_cons_succ, i64_w, i32_w]
            rfl
          refine one_ (i := 11) (N := some 64) #[true, true, true, true, true, true, true, true, true, true, true, true, false, false, false] rfl rfl (by kernel_rfl) (by decide) (fun K hK => ?_)
          refine slice_step (n := 2) (by rfl) (N := 64) rfl (cs := #[.int .i64 t2058, .int .i64 t2064]) (t := 3) ?hr ?_
          case hr => first | (go_simp; done) | (go_simp; rfl)
          intro g2144 hg w2145 hbox hb
          replace HS : Aside0 (Sep (fps []) w [b1 g1700 a1696 a1697 a1698 a1699, b18 g1703 0 0 0 0 0 0 0 0, b18 g1851 t1848 (wrap64 (a1697 - 8)) (wrap64 ((wrap64 (a1697 - 8)) + 1)) t2017 t2044 t2028 0 0, b2 g2132 2 (wrap64 ((wrap64 (a1697 - 8)) + 1)), b2 g2137 2 t2052, b2 g2144 t2058 t2064] w2145) := ⟨HS.out.box hg hbox hb⟩
          clear hg hbox hb
          refine hK.out _ _ (⟨blk_cellv (HS.out.at2) 4 rfl, blk_cellv (HS.out.at0) 3 rfl, blk_cellv (HS.out.at2) 2 rfl⟩) (fun hHeld => ?_)
          clear hK K
          refine norm_ (a' := ?_) ?_ ?_
          rotate_left
          · show Act.put _ (some 64) _ = _
            simp only [Act.put, List.setIfInBounds_toArray, List.set_cons_zero, List.set_cons_succ, i64_w, i32_w]
            rfl
          refine one_ (i := 12) (N := some 65) #[true, true, true, true, true, true, true, true, true, true, true, true, true, false, false] rfl rfl (by kernel_rfl) (by decide) (fun K hK => ?_)
          refine goes_ Tryd.func122 (by kernel_rfl) rfl #[.slice (some ⟨g2144, 0, none⟩) 2 2] (by rfl) rfl rfl (by (try simp only [List.map_toArray, List.map_cons, List.map_nil]); first | done | rfl) ?_
          refine (ratio_Add.calls _ [t2058, t2064] (some ⟨g2144, 0, none⟩) 2 t2070 _ ⟨Rd.lit (l := []) (xs := [t2058, t2064]) HS.out 5 rfl (by simp)⟩ ⟨HGl0.out.pass (l := []) HS.out⟩ ⟨Sep.start _⟩ HA2071).mono ?_
          rintro e_ w2148 ⟨rfl, hS⟩
          replace HS : Aside0 (Sep (fps []) w [b1 g1700 a1696 a1697 a1698 a1699, b18 g1703 0 0 0 0 0 0 0 0, b18 g1851 t1848 (wrap64 (a1697 - 8)) (wrap64 ((wrap64 (a1697 - 8)) + 1)) t2017 t2044 t2028 0 0, b2 g2132 2 (wrap64 ((wrap64 (a1697 - 8)) + 1)), b2 g2137 2 t2052, b2 g2144 t2058 t2064] w2148) := ⟨HS.out.call hS⟩
          clear hS
          refine ⟨_, rfl, ?_⟩
          refine hK.out _ _ (⟨blk_cellv (HS.out.at2) 4 rfl, blk_cellv (HS.out.at0) 3 rfl, blk_cellv (HS.out.at2) 2 rfl⟩) (fun hHeld => ?_)
          clear hK K
          refine norm_ (a' := ?_) ?_ ?_
          rotate_left
          · show Act.put _ (some 65) _ = _
            simp only [Act.put, List.setIfInBounds_toArray, List.set_cons_zero, List.set_cons_succ, i64_w, i32_w]
            rfl
          refine pure_ (i := 13) (N := some 66) (v := ?_) (a' := ?_) #[true, true, true, true, true, true, true, true, true, true, true, true, true, true, false] rfl rfl (by kernel_rfl) (fun _ _ _ h => h) (Or.inl ⟨by rfl, ?_⟩) ?_ ?_
          rotate_left
          · intro w'
            go_simp
            with_reducible rfl
          rotate_left
          · simp only [Act.put, List.setIfInBounds_toArray, List.set_cons_zero, List.set_cons_succ, i64_w, i32_w]
            rfl
          refine one_ (i := 14) (N := none) #[true, true, true, true, true, true, true, true, true, true, true, true, true, true, true] rfl rfl (by kernel_rfl) (by decide) (fun K hK => ?_)
          have hc2150 := blk_cellv (v := .int .i64 0) (HS.out.at2) 6 rfl
          have hz2151 := blk_fz (HS.out.at2) 6
          refine store_step (w1 := (World.setCell w2148 ⟨g1851, 6, none⟩ (.int .i64 t2070))) (by rfl) rfl ?hr ?_
          case hr => first | (go_simp; done) | (go_simp; rfl)
          clear hc2150 hz2151
          intro w2149 hst
          have hq0 : Sep (fps []) w [b1 g1700 a1696 a1697 a1698 a1699, b18 g1703 0 0 0 0 0 0 0 0, b18 g1851 t1848 (wrap64 (a1697 - 8)) (wrap64 ((wrap64 (a1697 - 8)) + 1)) t2017 t2044 t2028 t2070 0, b2 g2132 2 (wrap64 ((wrap64 (a1697 - 8)) + 1)), b2 g2137 2 t2052, b2 g2144 t2058 t2064] (World.setCell w2148 ⟨g1851, 6, none⟩ (.int .i64 t2070)) := (HS.out).set1 (l1 := [b1 g1700 a1696 a1697 a1698 a1699, b18 g1703 0 0 0 0 0 0 0 0]) (l2 := [b2 g2132 2 (wrap64 ((wrap64 (a1697 - 8)) + 1)), b2 g2137 2 t2052, b2 g2144 t2058 t2064]) 6 (.int .i64 t2070)
          have HS_ : Aside0 (Sep (fps []) w [b1 g1700 a1696 a1697 a1698 a1699, b18 g1703 0 0 0 0 0 0 0 0, b18 g1851 t1848 (wrap64 (a1697 - 8)) (wrap64 ((wrap64 (a1697 - 8)) + 1)) t2017 t2044 t2028 t2070 0, b2 g2132 2 (wrap64 ((wrap64 (a1697 - 8)) + 1)), b2 g2137 2 t2052, b2 g2144 t2058 t2064] w2149) := ⟨by rw [hst]; exact hq0⟩
          clear hq0
          clear HS hst
          have HS := HS_
          clear HS_
          refine hK.out _ _ (⟨blk_cellv (HS.out.at2) 4 rfl, blk_cellv (HS.out.at0) 3 rfl, blk_cellv (HS.out.at2) 2 rfl⟩) (fun hHeld => ?_)
          clear hK K
          refine done_ (by kernel_rfl) ?_
          go_wp2_with fail
          go_meet
          case rel => exact ⟨g2137, g2132, g2144, ⟨((((((HS.out).front 5 (by simp)).front 4 (by simp)).front 5 (by simp)).front 5 (by simp)).front 5 (by simp)).front 5 (by simp)⟩⟩
      case rest =>
        clear HS
        obtain ⟨g2055, g2061, g2067, HS⟩ := hcut
        obtain ⟨w2076, rfl⟩ : ∃ x : World, x = wc := ⟨_, rfl⟩
        replace HS : Aside0 (Sep (fps []) w [b1 g1700 a1696 a1697 a1698 a1699, b18 g1703 0 0 0 0 0 0 0 0, b18 g1851 t1848 (wrap64 (a1697 - 8)) (wrap64 ((wrap64 (a1697 - 8)) + 1)) t2017 t2044 t2028 t2070 0] w2076) := ⟨HS.out.sub (.cons_cons _ (.cons_cons _ (.cons_cons _ (.cons _ (.cons _ (.cons _ .slnil))))))⟩
        go_wp2_with fail
        refine start_ (n := 15) (S := (fun w' => w'.cell? ⟨g1851, 4, none⟩ = some (.int .i64 t2044) ∧ w'.cell? ⟨g1851, 5, none⟩ = some (.int .i64 t2028) ∧ w'.cell? ⟨g1700, 3, none⟩ = some (.int .i64 a1699))) (ds := []) #[false, false, false, false, false, false, false, false, false, false, false, false, false, false, false] (by kernel_rfl) rfl rfl (⟨blk_cellv ((HS.out.drew).at2) 4 rfl, blk_cellv ((HS.out.drew).at2) 5 rfl, blk_cellv ((HS.out.drew).at0) 3 rfl⟩) (fun hHeld => ?_)
        have HS_ := Aside0.mk HS.out.drew
        clear HS
        generalize World.drew _ = w2153 at HS_ hHeld ⊢
        have HS := HS_
        clear HS_
        refine pure_ (i := 0) (N := some 67) (v := ?_) (a' := ?_) #[true, false, false, false, false, false, false, false, false, false, false, false, false, false, false] rfl rfl (by kernel_rfl) (fun _ _ _ h => h) (Or.inl ⟨by rfl, ?_⟩) ?_ ?_
        rotate_left
        · intro w'
          go_simp
          with_reducible rfl
        rotate_left
        · simp only [Act.put, List.setIfInBounds_toArray, List.set_cons_zero, List.set_cons_succ, i64_w, i32_w]
          rfl
        refine pure_ (i := 2) (N := some 69) (v := ?_) (a' := ?_) #[true, false, true, false, false, false, false, false, false, false, false, false, false, false, false] rfl rfl (by kernel_rfl) (fun _ _ _ h => h) (Or.inl ⟨by rfl, ?_⟩) ?_ ?_
        rotate_left
        · intro w'
          go_simp
          with_reducible rfl
        rotate_left
        · simp only [Act.put, List.setIfInBounds_toArray, List.set_cons_zero, List.set_cons_succ, i64_w, i32_w]
          rfl
        refine pure_ (i := 4) (N := some 71) (v := ?_) (a' := ?_) #[true, false, true, false, true, false, false, false, false, false, false, false, false, false, false] rfl rfl (by kernel_rfl) (fun _ _ _ h => h) (Or.inl ⟨by rfl, ?_⟩) ?_ ?_
        rotate_left
        · intro w'
          go_simp
          with_reducible rfl
        rotate_left
        · simp only [Act.put, List.setIfInBounds_toArray, List.set_cons_zero, List.set_cons_succ, i64_w, i32_w]
          rfl
        refine pure_ (i := 8) (N := some 75) (v := ?_) (a' := ?_) #[true, false, true, false, true, false, false, false, true, false, false, false, false, false, false] rfl rfl (by kernel_rfl) (fun _ _ _ h => h) (Or.inl ⟨by rfl, ?_⟩) ?_ ?_
        rotate_left
        · intro w'
          go_simp
          with_reducible rfl
        rotate_left
        · simp only [Act.put, List.setIfInBounds_toArray, List.set_cons_zero, List.set_cons_succ, i64_w, i32_w]
          rfl
        refine take_ (i := 1) (N := some 68) (v := ?_) (a' := ?_) #[true, true, true, false, true, false, false, false, true, false, false, false, false, false, false] rfl rfl (by kernel_rfl) (fun _ _ _ h => h) (Or.inl ⟨by rfl, ?_⟩) hHeld ?_ ?_
        rotate_left
        · rintro w' hS'
          obtain ⟨s0, s1, s2⟩ := hS'
          go_simp
          with_reducible rfl
        rotate_left
        · simp only [Act.put, List.setIfInBounds_toArray, List.set_cons_zero, List.set_cons_succ, i64_w, i32_w]
          rfl
        refine take_ (i := 3) (N := some 70) (v := ?_) (a' := ?_) #[true, true, true, true, true, false, false, false, true, false, false, false, false, false, false] rfl rfl (by kernel_rfl) (fun _ _ _ h => h) (Or.inl ⟨by rfl, ?_⟩) hHeld ?_ ?_
        rotate_left
        · rintro w' hS'
          obtain ⟨s0, s1, s2⟩ := hS'
          go_simp
          with_reducible rfl
        rotate_left
        · simp only [Act.put, List.setIfInBounds_toArray, List.set_cons_zero, List.set_cons_succ, i64_w, i32_w]
          rfl
        refine take_ (i := 5) (N := some 72) (v := ?_) (a' := ?_) #[true, true, true, true, true, true, false, false, true, false, false, false, false, false, false] rfl rfl (by kernel_rfl) (fun _ _ _ h => h) (Or.inl ⟨by rfl, ?_⟩) hHeld ?_ ?_
        rotate_left
        · rintro w' hS'
          obtain ⟨s0, s1, s2⟩ := hS'
          go_simp
          with_reducible rfl
        rotate_left
        · simp only [Act.put, List.setIfInBounds_toArray, List.set_cons_zero, List.set_cons_succ, i64_w, i32_w]
          rfl
        refine take_ (i := 9) (N := some 76) (v := ?_) (a' := ?_) #[true, true, true, true, true, true, false, false, true, true, false, false, false, false, false] rfl rfl (by kernel_rfl) (fun _ _ _ h => h) (Or.inl ⟨by rfl, ?_⟩) hHeld ?_ ?_
        rotate_left
        · rintro w' hS'
          obtain ⟨s0, s1, s2⟩ := hS'
          go_simp
          with_reducible rfl
        rotate_left
        · simp only [Act.put, List.setIfInBounds_toArray, List.set_cons_zero, List.set_cons_succ, i64_w, i32_w]
          rfl
        refine one_ (i := 6) (N := some 73) #[true, true, true, true, true, true, true, false, true, true, false, false, false, false, false] rfl rfl (by kernel_rfl) (by decide) (fun K hK => ?_)
        refine slice_step (n := 3) (by rfl) (N := 73) rfl (cs := #[.int .i64 t2044, .int .i64 t2044, .int .i64 t2028]) (t := 3) ?hr ?_
        case hr => first | (go_simp; done) | (go_simp; rfl)
        intro g2154 hg w2155 hbox hb
        replace HS : Aside0 (Sep (fps []) w [b1 g1700 a1696 a1697 a1698 a1699, b18 g1703 0 0 0 0 0 0 0 0, b18 g1851 t1848 (wrap64 (a1697 - 8)) (wrap64 ((wrap64 (a1697 - 8)) + 1)) t2017 t2044 t2028 t2070 0, b19 g2154 t2044 t2044 t2028] w2155) := ⟨HS.out.box hg hbox hb⟩
        clear hg hbox hb
        refine hK.out _ _ (⟨blk_cellv (HS.out.at2) 4 rfl, blk_cellv (HS.out.at2) 5 rfl, blk_cellv (HS.out.at0) 3 rfl⟩) (fun hHeld => ?_)
        clear hK K
        refine norm_ (a' := ?_) ?_ ?_
        rotate_left
        · show Act.put _ (some 73) _ = _
          simp only [Act.put, List.setIfInBounds_toArray, List.set_cons_zero, List.set_cons_succ, i64_w, i32_w]
          rfl
        refine one_ (i := 7) (N := some 74) #[true, true, true, true, true, true, true, true, true, true, false, false, false, false, false] rfl rfl (by kernel_rfl) (by decide) (fun K hK => ?_)
        obtain ⟨t2157, HA2158, H⟩ := bind_some H
        refine goes_ Tryd.func122 (by kernel_rfl) rfl #[.slice (some ⟨g2154, 0, none⟩) 3 3] (by rfl) rfl rfl (by (try simp only [List.map_toArray, List.map_cons, List.map_nil]); first | done | rfl) ?_
        refine (ratio_Add.calls _ [t2044, t2044, t2028] (some ⟨g2154, 0, none⟩) 3 t2157 _ ⟨Rd.lit (l := []) (xs := [t2044, t2044, t2028]) HS.out 3 rfl (by simp)⟩ ⟨HGl0.out.pass (l := []) HS.out⟩ ⟨Sep.start _⟩ HA2158).mono ?_
        rintro e_ w2159 ⟨rfl, hS⟩
        replace HS : Aside0 (Sep (fps []) w [b1 g1700 a1696 a1697 a1698 a1699, b18 g1703 0 0 0 0 0 0 0 0, b18 g1851 t1848 (wrap64 (a1697 - 8)) (wrap64 ((wrap64 (a1697 - 8)) + 1)) t2017 t2044 t2028 t2070 0, b19 g2154 t2044 t2044 t2028] w2159) := ⟨HS.out.call hS⟩
        clear hS
        refine ⟨_, rfl, ?_⟩
        refine hK.out _ _ (⟨blk_cellv (HS.out.at2) 4 rfl, blk_cellv (HS.out.at2) 5 rfl, blk_cellv (HS.out.at0) 3 rfl⟩) (fun hHeld => ?_)
        clear hK K
        refine norm_ (a' := ?_) ?_ ?_
        rotate_left
        · show Act.put _ (some 74) _ = _
          simp only [Act.put, List.setIfInBounds_toArray, List.set_cons_zero, List.set_cons_succ, i64_w, i32_w]
          rfl
        refine one_ (i := 10) (N := some 77) #[true, true, true, true, true, true, true, true, true, true, true, false, false, false, false] rfl rfl (by kernel_rfl) (by decide) (fun K hK => ?_)
        obtain ⟨t2160, HA2161, H⟩ := bind_some H
        refine goes_ Tryd.func124 (by kernel_rfl) rfl #[.int .i64 t2157, .int .i64 a1699] (by rfl) rfl rfl (by (try simp only [List.map_toArray, List.map_cons, List.map_nil]); first | done | rfl) ?_
        refine (ratio_Up.calls t2157 a1699 t2160 _ ⟨HGl0.out.pass (l := []) HS.out⟩ ⟨Sep.start _⟩ HA2161).mono ?_
        rintro e_ w2162 ⟨rfl, hS⟩
        replace HS : Aside0 (Sep (fps []) w [b1 g1700 a1696 a1697 a1698 a1699, b18 g1703 0 0 0 0 0 0 0 0, b18 g1851 t1848 (wrap64 (a1697 - 8)) (wrap64 ((wrap64 (a1697 - 8)) + 1)) t2017 t2044 t2028 t2070 0, b19 g2154 t2044 t2044 t2028] w2162) := ⟨HS.out.call hS⟩
        clear hS
        refine ⟨_, rfl, ?_⟩
        refine hK.out _ _ (⟨blk_cellv (HS.out.at2) 4 rfl, blk_cellv (HS.out.at2) 5 rfl, blk_cellv (HS.out.at0) 3 rfl⟩) (fun hHeld => ?_)
        clear hK K
        refine norm_ (a' := ?_) ?_ ?_
        rotate_left
        · show Act.put _ (some 77) _ = _
          simp only [Act.put, List.setIfInBounds_toArray, List.set_cons_zero, List.set_cons_succ, i64_w, i32_w]
          rfl
        refine one_ (i := 11) (N := some 78) #[true, true, true, true, true, true, true, true, true, true, true, true, false, false, false] rfl rfl (by kernel_rfl) (by decide) (fun K hK => ?_)
        refine slice_step (n := 2) (by rfl) (N := 78) rfl (cs := #[.int .i64 t2160, .int .i64 2]) (t := 3) ?hr ?_
        case hr => first | (go_simp; done) | (go_simp; rfl)
        intro g2163 hg w2164 hbox hb
        replace HS : Aside0 (Sep (fps []) w [b1 g1700 a1696 a1697 a1698 a1699, b18 g1703 0 0 0 0 0 0 0 0, b18 g1851 t1848 (wrap64 (a1697 - 8)) (wrap64 ((wrap64 (a1697 - 8)) + 1)) t2017 t2044 t2028 t2070 0, b19 g2154 t2044 t2044 t2028, b2 g2163 t2160 2] w2164) := ⟨HS.out.box hg hbox hb⟩
        clear hg hbox hb
        refine hK.out _ _ (⟨blk_cellv (HS.out.at2) 4 rfl, blk_cellv (HS.out.at2) 5 rfl, blk_cellv (HS.out.at0) 3 rfl⟩) (fun hHeld => ?_)
        clear hK K
        refine norm_ (a' := ?_) ?_ ?_
        rotate_left
        · show Act.put _ (some 78) _ = _
          simp only [Act.put, List.setIfInBounds_toArray, List.set_cons_zero, List.set_cons_succ, i64_w, i32_w]
          rfl
        refine one_ (i := 12) (N := some 79) #[true, true, true, true, true, true, true, true, true, true, true, true, true, false, false] rfl rfl (by kernel_rfl) (by decide) (fun K hK => ?_)
        obtain ⟨t2166, HA2167, H⟩ := bind_some H
        refine goes_ Tryd.func122 (by kernel_rfl) rfl #[.slice (some ⟨g2163, 0, none⟩) 2 2] (by rfl) rfl rfl (by (try simp only [List.map_toArray, List.map_cons, List.map_nil]); first | done | rfl) ?_
        refine (ratio_Add.calls _ [t2160, 2] (some ⟨g2163, 0, none⟩) 2 t2166 _ ⟨Rd.lit (l := []) (xs := [t2160, 2]) HS.out 4 rfl (by simp)⟩ ⟨HGl0.out.pass (l := []) HS.out⟩ ⟨Sep.start _⟩ HA2167).mono ?_
        rintro e_ w2168 ⟨rfl, hS⟩
        replace HS : Aside0 (Sep (fps []) w [b1 g1700 a1696 a1697 a1698 a1699, b18 g1703 0 0 0 0 0 0 0 0, b18 g1851 t1848 (wrap64 (a1697 - 8)) (wrap64 ((wrap64 (a1697 - 8)) + 1)) t2017 t2044 t2028 t2070 0, b19 g2154 t2044 t2044 t2028, b2 g2163 t2160 2] w2168) := ⟨HS.out.call hS⟩
        clear hS
        refine ⟨_, rfl, ?_⟩
        refine hK.out _ _ (⟨blk_cellv (HS.out.at2) 4 rfl, blk_cellv (HS.out.at2) 5 rfl, blk_cellv (HS.out.at0) 3 rfl⟩) (fun hHeld => ?_)
        clear hK K
        refine norm_ (a' := ?_) ?_ ?_
        rotate_left
        · show Act.put _ (some 79) _ = _
          simp only [Act.put, List.setIfInBounds_toArray, List.set_cons_zero, List.set_cons_succ, i64_w, i32_w]
          rfl
        refine pure_ (i := 13) (N := some 80) (v := ?_) (a' := ?_) #[true, true, true, true, true, true, true, true, true, true, true, true, true, true, false] rfl rfl (by kernel_rfl) (fun _ _ _ h => h) (Or.inl ⟨by rfl, ?_⟩) ?_ ?_
        rotate_left
        · intro w'
          go_simp
          with_reducible rfl
        rotate_left
        · simp only [Act.put, List.setIfInBounds_toArray, List.set_cons_zero, List.set_cons_succ, i64_w, i32_w]
          rfl
        refine one_ (i := 14) (N := none) #[true, true, true, true, true, true, true, true, true, true, true, true, true, true, true] rfl rfl (by kernel_rfl) (by decide) (fun K hK => ?_)
        have hc2170 := blk_cellv (v := .int .i64 0) (HS.out.at2) 7 rfl
        have hz2171 := blk_fz (HS.out.at2) 7
        refine store_step (w1 := (World.setCell w2168 ⟨g1851, 7, none⟩ (.int .i64 t2166))) (by rfl) rfl ?hr ?_
        case hr => first | (go_simp; done) | (go_simp; rfl)
        clear hc2170 hz2171
        intro w2169 hst
        have hq0 : Sep (fps []) w [b1 g1700 a1696 a1697 a1698 a1699, b18 g1703 0 0 0 0 0 0 0 0, b18 g1851 t1848 (wrap64 (a1697 - 8)) (wrap64 ((wrap64 (a1697 - 8)) + 1)) t2017 t2044 t2028 t2070 t2166, b19 g2154 t2044 t2044 t2028, b2 g2163 t2160 2] (World.setCell w2168 ⟨g1851, 7, none⟩ (.int .i64 t2166)) := (HS.out).set1 (l1 := [b1 g1700 a1696 a1697 a1698 a1699, b18 g1703 0 0 0 0 0 0 0 0]) (l2 := [b19 g2154 t2044 t2044 t2028, b2 g2163 t2160 2]) 7 (.int .i64 t2166)
        have HS_ : Aside0 (Sep (fps []) w [b1 g1700 a1696 a1697 a1698 a1699, b18 g1703 0 0 0 0 0 0 0 0, b18 g1851 t1848 (wrap64 (a1697 - 8)) (wrap64 ((wrap64 (a1697 - 8)) + 1)) t2017 t2044 t2028 t2070 t2166, b19 g2154 t2044 t2044 t2028, b2 g2163 t2160 2] w2169) := ⟨by rw [hst]; exact hq0⟩
        clear hq0
        clear HS hst
        have HS := HS_
        clear HS_
        refine hK.out _ _ (⟨blk_cellv (HS.out.at2) 4 rfl, blk_cellv (HS.out.at2) 5 rfl, blk_cellv (HS.out.at0) 3 rfl⟩) (fun hHeld => ?_)
        clear hK K
        refine done_ (by kernel_rfl) ?_
        replace HS : Aside0 (Sep (fps []) w [b18 g1703 0 0 0 0 0 0 0 0, b18 g1851 t1848 (wrap64 (a1697 - 8)) (wrap64 ((wrap64 (a1697 - 8)) + 1)) t2017 t2044 t2028 t2070 t2166] w2169) := ⟨HS.out.sub (.cons _ (.cons_cons _ (.cons_cons _ (.cons _ (.cons _ .slnil)))))⟩
        have hc2172 : w2169.cell? ⟨g1851, 0, none⟩ = some (.int .i64 t1848) := blk_cellv (HS.out.at1) 0 rfl
        have hc2173 : w2169.cell? ⟨g1851, 1, none⟩ = some (.int .i64 (wrap64 (a1697 - 8))) := blk_cellv (HS.out.at1) 1 rfl
        have hc2174 : w2169.cell? ⟨g1851, 2, none⟩ = some (.int .i64 (wrap64 ((wrap64 (a1697 - 8)) + 1))) := blk_cellv (HS.out.at1) 2 rfl
        have hc2175 : w2169.cell? ⟨g1851, 3, none⟩ = some (.int .i64 t2017) := blk_cellv (HS.out.at1) 3 rfl
        have hc2176 : w2169.cell? ⟨g1851, 4, none⟩ = some (.int .i64 t2044) := blk_cellv (HS.out.at1) 4 rfl
        have hc2177 : w2169.cell? ⟨g1851, 5, none⟩ = some (.int .i64 t2028) := blk_cellv (HS.out.at1) 5 rfl
        have hc2178 : w2169.cell? ⟨g1851, 6, none⟩ = some (.int .i64 t2070) := blk_cellv (HS.out.at1) 6 rfl
        have hc2179 : w2169.cell? ⟨g1851, 7, none⟩ = some (.int .i64 t2166) := blk_cellv (HS.out.at1) 7 rfl
        have hc2180 : w2169.cell? ⟨g1703, 0, none⟩ = some (.int .i64 0) := blk_cellv (HS.out.at0) 0 rfl
        have hz2181 : w2169.frozen? ⟨g1703, 0, none⟩ = false := blk_fz (HS.out.at0) 0
        have hc2182 : w2169.cell? ⟨g1703, 1, none⟩ = some (.int .i64 0) := blk_cellv (HS.out.at0) 1 rfl
        have hz2183 : w2169.frozen? ⟨g1703, 1, none⟩ = false := blk_fz (HS.out.at0) 1
        have hc2184 : w2169.cell? ⟨g1703, 2, none⟩ = some (.int .i64 0) := blk_cellv (HS.out.at0) 2 rfl
        have hz2185 : w2169.frozen? ⟨g1703, 2, none⟩ = false := blk_fz (HS.out.at0) 2
        have hc2186 : w2169.cell? ⟨g1703, 3, none⟩ = some (.int .i64 0) := blk_cellv (HS.out.at0) 3 rfl
        have hz2187 : w2169.frozen? ⟨g1703, 3, none⟩ = false := blk_fz (HS.out.at0) 3
        have hc2188 : w2169.cell? ⟨g1703, 4, none⟩ = some (.int .i64 0) := blk_cellv (HS.out.at0) 4 rfl
        have hz2189 : w2169.frozen? ⟨g1703, 4, none⟩ = false := blk_fz (HS.out.at0) 4
        have hc2190 : w2169.cell? ⟨g1703, 5, none⟩ = some (.int .i64 0) := blk_cellv (HS.out.at0) 5 rfl
        have hz2191 : w2169.frozen? ⟨g1703, 5, none⟩ = false := blk_fz (HS.out.at0) 5
        have hc2192 : w2169.cell? ⟨g1703, 6, none⟩ = some (.int .i64 0) := blk_cellv (HS.out.at0) 6 rfl
        have hz2193 : w2169.frozen? ⟨g1703, 6, none⟩ = false := blk_fz (HS.out.at0) 6
        have hc2194 : w2169.cell? ⟨g1703, 7, none⟩ = some (.int .i64 0) := blk_cellv (HS.out.at0) 7 rfl
        have hz2195 : w2169.frozen? ⟨g1703, 7, none⟩ = false := blk_fz (HS.out.at0) 7
        go_wp2_with (first | ((with_reducible refine gate_store (t := 97) (p := 2) rfl ?_); refine store_event (w1 := (World.setCell (World.setCell (World.setCell (World.setCell (World.setCell (World.setCell (World.setCell (World.setCell w2169 ⟨g1703, 0, none⟩ (.int .i64 t1848)) ⟨g1703, 1, none⟩ (.int .i64 (wrap64 (a1697 - 8)))) ⟨g1703, 2, none⟩ (.int .i64 (wrap64 ((wrap64 (a1697 - 8)) + 1)))) ⟨g1703, 3, none⟩ (.int .i64 t2017)) ⟨g1703, 4, none⟩ (.int .i64 t2044)) ⟨g1703, 5, none⟩ (.int .i64 t2028)) ⟨g1703, 6, none⟩ (.int .i64 t2070)) ⟨g1703, 7, none⟩ (.int .i64 t2166))) rfl (t := 97) (p := 2) rfl rfl ?hr ?_; (case hr => first | (go_simp; done) | (go_simp; rfl)); intro w2196 hst; clear hc2172 hc2173 hc2174 hc2175 hc2176 hc2177 hc2178 hc2179 hc2180 hz2181 hc2182 hz2183 hc2184 hz2185 hc2186 hz2187 hc2188 hz2189 hc2190 hz2191 hc2192 hz2193 hc2194 hz2195; replace HS : Aside0 (Sep (fps []) w [b18 g1703 t1848 (wrap64 (a1697 - 8)) (wrap64 ((wrap64 (a1697 - 8)) + 1)) t2017 t2044 t2028 t2070 t2166, b18 g1851 t1848 (wrap64 (a1697 - 8)) (wrap64 ((wrap64 (a1697 - 8)) + 1)) t2017 t2044 t2028 t2070 t2166] w2196) := ⟨by rw [hst]; exact HS.out.setAll (l1 := []) (l2 := [b18 g1851 t1848 (wrap64 (a1697 - 8)) (wrap64 ((wrap64 (a1697 - 8)) + 1)) t2017 t2044 t2028 t2070 t2166]) [.int .i64 t1848, .int .i64 (wrap64 (a1697 - 8)), .int .i64 (wrap64 ((wrap64 (a1697 - 8)) + 1)), .int .i64 t2017, .int .i64 t2044, .int .i64 t2028, .int .i64 t2070, .int .i64 t2166] rfl⟩; clear hst; replace HS : Aside0 (Sep (fps []) w [b18 g1703 t1848 (wrap64 (a1697 - 8)) (wrap64 ((wrap64 (a1697 - 8)) + 1)) t2017 t2044 t2028 t2070 t2166] w2196) := ⟨HS.out.sub (.cons_cons _ (.cons _ .slnil))⟩))
        have hc2197 : w2196.cell? ⟨g1703, 0, none⟩ = some (.int .i64 t1848) := blk_cellv (HS.out.at0) 0 rfl
        have hc2198 : w2196.cell? ⟨g1703, 1, none⟩ = some (.int .i64 (wrap64 (a1697 - 8))) := blk_cellv (HS.out.at0) 1 rfl
        have hc2199 : w2196.cell? ⟨g1703, 2, none⟩ = some (.int .i64 (wrap64 ((wrap64 (a1697 - 8)) + 1))) := blk_cellv (HS.out.at0) 2 rfl
        have hc2200 : w2196.cell? ⟨g1703, 3, none⟩ = some (.int .i64 t2017) := blk_cellv (HS.out.at0) 3 rfl
        have hc2201 : w2196.cell? ⟨g1703, 4, none⟩ = some (.int .i64 t2044) := blk_cellv (HS.out.at0) 4 rfl
        have hc2202 : w2196.cell? ⟨g1703, 5, none⟩ = some (.int .i64 t2028) := blk_cellv (HS.out.at0) 5 rfl
        have hc2203 : w2196.cell? ⟨g1703, 6, none⟩ = some (.int .i64 t2070) := blk_cellv (HS.out.at0) 6 rfl
        have hc2204 : w2196.cell? ⟨g1703, 7, none⟩ = some (.int .i64 t2166) := blk_cellv (HS.out.at0) 7 rfl
        refine bodyPost_ret (v := .tuple #[.agg #[.int .i64 t1848, .int .i64 (wrap64 (a1697 - 8)), .int .i64 (wrap64 ((wrap64 (a1697 - 8)) + 1)), .int .i64 t2017, .int .i64 t2044, .int .i64 t2028, .int .i64 t2070, .int .i64 t2166], .int .i64 0]) (by simp [results, Tryd.results65, go_sem, hc2197, hc2198, hc2199, hc2200, hc2201, hc2202, hc2203, hc2204]) rfl ?_
        rw [← some_eq H]
        exact ⟨(by first | rfl | (simp [IntKind.wrap_u32]; done)), HS.out.sub (.cons _ .slnil)⟩
  · have H := if_no c1749 H
    have c1749b0 : (t1746 == 0) = false := beq_eq_false_iff_ne.mpr c1749
    have c1749b1 : (t1746 != 0) = true := bne_iff_ne.mpr c1749
    clear c1749
    have hc2205 : w1748.cell? ⟨g1703, 0, none⟩ = some (.int .i64 0) := blk_cellv (HS.out.at1) 0 rfl
    have hz2206 : w1748.frozen? ⟨g1703, 0, none⟩ = false := blk_fz (HS.out.at1) 0
    have hc2207 : w1748.cell? ⟨g1703, 1, none⟩ = some (.int .i64 0) := blk_cellv (HS.out.at1) 1 rfl
    have hz2208 : w1748.frozen? ⟨g1703, 1, none⟩ = false := blk_fz (HS.out.at1) 1
    have hc2209 : w1748.cell? ⟨g1703, 2, none⟩ = some (.int .i64 0) := blk_cellv (HS.out.at1) 2 rfl
    have hz2210 : w1748.frozen? ⟨g1703, 2, none⟩ = false := blk_fz (HS.out.at1) 2
    have hc2211 : w1748.cell? ⟨g1703, 3, none⟩ = some (.int .i64 0) := blk_cellv (HS.out.at1) 3 rfl
    have hz2212 : w1748.frozen? ⟨g1703, 3, none⟩ = false := blk_fz (HS.out.at1) 3
    have hc2213 : w1748.cell? ⟨g1703, 4, none⟩ = some (.int .i64 0) := blk_cellv (HS.out.at1) 4 rfl
    have hz2214 : w1748.frozen? ⟨g1703, 4, none⟩ = false := blk_fz (HS.out.at1) 4
    have hc2215 : w1748.cell? ⟨g1703, 5, none⟩ = some (.int .i64 0) := blk_cellv (HS.out.at1) 5 rfl
    have hz2216 : w1748.frozen? ⟨g1703, 5, none⟩ = false := blk_fz (HS.out.at1) 5
    have hc2217 : w1748.cell? ⟨g1703, 6, none⟩ = some (.int .i64 0) := blk_cellv (HS.out.at1) 6 rfl
    have hz2218 : w1748.frozen? ⟨g1703, 6, none⟩ = false := blk_fz (HS.out.at1) 6
    have hc2219 : w1748.cell? ⟨g1703, 7, none⟩ = some (.int .i64 0) := blk_cellv (HS.out.at1) 7 rfl
    have hz2220 : w1748.frozen? ⟨g1703, 7, none⟩ = false := blk_fz (HS.out.at1) 7
    go_wp2_with (first | ((with_reducible refine gate_store (t := 97) (p := 2) rfl ?_); refine store_event (w1 := (World.setCell (World.setCell (World.setCell (World.setCell (World.setCell (World.setCell (World.setCell (World.setCell w1748 ⟨g1703, 0, none⟩ (.int .i64 0)) ⟨g1703, 1, none⟩ (.int .i64 0)) ⟨g1703, 2, none⟩ (.int .i64 0)) ⟨g1703, 3, none⟩ (.int .i64 0)) ⟨g1703, 4, none⟩ (.int .i64 0)) ⟨g1703, 5, none⟩ (.int .i64 0)) ⟨g1703, 6, none⟩ (.int .i64 0)) ⟨g1703, 7, none⟩ (.int .i64 0))) rfl (t := 97) (p := 2) rfl rfl ?hr ?_; (case hr => first | (go_simp; done) | (go_simp; rfl)); intro w2221 hst; clear hc2205 hz2206 hc2207 hz2208 hc2209 hz2210 hc2211 hz2212 hc2213 hz2214 hc2215 hz2216 hc2217 hz2218 hc2219 hz2220; replace HS : Aside0 (Sep (fps []) w [b1 g1700 a1696 a1697 a1698 a1699, b18 g1703 0 0 0 0 0 0 0 0] w2221) := ⟨by rw [hst]; exact HS.out.setAll (l1 := [b1 g1700 a1696 a1697 a1698 a1699]) (l2 := []) [.int .i64 0, .int .i64 0, .int .i64 0, .int .i64 0, .int .i64 0, .int .i64 0, .int .i64 0, .int .i64 0] rfl⟩; clear hst; replace HS : Aside0 (Sep (fps []) w [b18 g1703 0 0 0 0 0 0 0 0] w2221) := ⟨HS.out.sub (.cons _ (.cons_cons _ .slnil))⟩))
    have hc2222 : w2221.cell? ⟨g1703, 0, none⟩ = some (.int .i64 0) := blk_cellv (HS.out.at0) 0 rfl
    have hc2223 : w2221.cell? ⟨g1703, 1, none⟩ = some (.int .i64 0) := blk_cellv (HS.out.at0) 1 rfl
    have hc2224 : w2221.cell? ⟨g1703, 2, none⟩ = some (.int .i64 0) := blk_cellv (HS.out.at0) 2 rfl
    have hc2225 : w2221.cell? ⟨g1703, 3, none⟩ = some (.int .i64 0) := blk_cellv (HS.out.at0) 3 rfl
    have hc2226 : w2221.cell? ⟨g1703, 4, none⟩ = some (.int .i64 0) := blk_cellv (HS.out.at0) 4 rfl
    have hc2227 : w2221.cell? ⟨g1703, 5, none⟩ = some (.int .i64 0) := blk_cellv (HS.out.at0) 5 rfl
    have hc2228 : w2221.cell? ⟨g1703, 6, none⟩ = some (.int .i64 0) := blk_cellv (HS.out.at0) 6 rfl
    have hc2229 : w2221.cell? ⟨g1703, 7, none⟩ = some (.int .i64 0) := blk_cellv (HS.out.at0) 7 rfl
    refine bodyPost_ret (v := .tuple #[.agg #[.int .i64 0, .int .i64 0, .int .i64 0, .int .i64 0, .int .i64 0, .int .i64 0, .int .i64 0, .int .i64 0], .int .i64 t1746]) (by simp [results, Tryd.results65, go_sem, hc2222, hc2223, hc2224, hc2225, hc2226, hc2227, hc2228, hc2229]) rfl ?_
    rw [← some_eq H]
    exact ⟨(by first | rfl | (simp [IntKind.wrap_u32]; done)), HS.out.sub (.cons _ .slnil)⟩

set_option maxHeartbeats 30000000 in
set_option maxRecDepth 100000 in
theorem store_New.calls (a2255 : Int) (r : Unit ⊕ (List Int)) (w : World)  (HGl0 : Aside0 (Gl 0 #[.int .i64 0, .int .i64 0, .int .i64 0, .int .i64 0, .int .i64 0] (fps []) w)) (HS : Aside0 (Sep (fps []) w [] w)) (H : Aside0 (store_New.f a2255 = some r)) :
    Calls Tryd.prog 66 #[.int .i64 a2255] w fun e w' => Sum.elim (fun (r : Unit) => e = .returned (.tuple #[.pointer none, .int .i64 2]) ∧ Sep (fps []) w [] w') (fun (r : List Int) => ∃ (g2291 : Nat), e = .returned (.tuple #[.pointer (some ⟨g2291, 0, none⟩), .int .i64 0]) ∧ ∃ (A2292 : Option Addr) (m2293 : Nat) (n2294 : Nat), Sep (fps []) w [b20 g2291 A2292 m2293 n2294 0, r7 A2292 m2293 n2294 r] w') r := by
  unfold store_New.f at H
  go_enter Tryd.func66, Tryd.ntmps66
  by_cases c2269 : a2255 < 0
  · have H := if_yes c2269 H
    have c2269b0 : decide (a2255 < 0) = true := decide_eq_true c2269
    clear c2269
    go_wp2_with fail
    go_ret2
    rw [← some_eq H]
    exact ⟨(by first | rfl | (simp [IntKind.wrap_u32]; done)), HS.out⟩
  · have H := if_no c2269 H
    have c2269b0 : decide (a2255 < 0) = false := decide_eq_false c2269
    clear c2269
    by_cases c2270 : a2255 > 8388608
    · have H := if_yes c2270 H
      have c2270b0 : decide (8388608 < a2255) = true := decide_eq_true c2270
      clear c2270
      go_wp2_with fail
      go_ret2
      rw [← some_eq H]
      exact ⟨(by first | rfl | (simp [IntKind.wrap_u32]; done)), HS.out⟩
    · have H := if_no c2270 H
      have c2270b0 : decide (8388608 < a2255) = false := decide_eq_false c2270
      clear c2270
      obtain ⟨m2271, HA2272, H⟩ := bind_some H
      obtain ⟨hm2273, hn2274⟩ := mkLen_eq HA2272
      have hm2273H := Aside0.mk hm2273
      clear hm2273
      go_wp2_with (first | ((with_reducible refine gate_dst (N := 11) rfl ?_); refine make_event rfl (N := 11) rfl 69 33 (.tmp 10) (.tmp 10) rfl .i64 (.int .u32 0) 4 Tryd.underlying69 (by kernel_rfl) rfl (by decide) (Value.int .u32) 0 rfl m2271 (by show Value.int _ _ = _; rw [hm2273H.out]) (by show Value.int _ _ = _; rw [hm2273H.out]) (by omega) HS.out ?_; intro g2275 w2276 HS1; replace HS : Aside0 (Sep (fps []) w [r7 (some ⟨g2275, 0, none⟩) m2271 m2271 (List.replicate m2271 (0 : Int))] w2276) := ⟨HS1⟩; clear HS1) | ((with_reducible refine gate_dst (N := 13) rfl ?_); refine box_on ?hg (N := 13) ?hd (cs := #[.slice (some ⟨g2275, 0, none⟩) m2271 m2271, .int .u64 0]) (t := 154) ?hr ?_; (case hd => rfl); (case hg => rfl); (case hr => first | (go_simp; done) | (go_simp; rfl)); intro g2279 hg w2280 hbox hb; replace HS : Aside0 (Sep (fps []) w [r7 (some ⟨g2275, 0, none⟩) m2271 m2271 (List.replicate m2271 (0 : Int)), b20 g2279 (some ⟨g2275, 0, none⟩) m2271 m2271 0] w2280) := ⟨HS.out.box hg hbox hb⟩; clear hg hbox hb))
      go_ret2
      rw [← some_eq H]
      exact ⟨g2279, (by first | rfl | (simp [IntKind.wrap_u32]; done)), (some ⟨g2275, 0, none⟩), m2271, m2271, ((HS.out).front 1 (by simp)).keep (l := [b20 g2279 (some ⟨g2275, 0, none⟩) m2271 m2271 0, r7 (some ⟨g2275, 0, none⟩) m2271 m2271 (List.replicate m2271 (0 : Int))]) (rest := [])⟩

set_option maxHeartbeats 30000000 in
set_option maxRecDepth 100000 in
theorem ground_New.calls (k : Nat) (a1685 : Int) (a1686 : Int) (a1687 : Int) (a1688 : Int) (r : Unit ⊕ ((Int × Int × Int × Int × List Int) ⊕ Int)) (w : World)  (HGl0 : Aside0 (Gl 0 #[.int .i64 0, .int .i64 0, .int .i64 0, .int .i64 0, .int .i64 0] (fps []) w)) (HS : Aside0 (Sep (fps []) w [] w)) (H : Aside0 (ground_New.f k a1685 a1686 a1687 a1688 = some r)) :
    Calls Tryd.prog 15 #[.agg #[.int .i64 a1685, .int .i64 a1686, .int .i64 a1687, .int .i64 a1688]] w fun e w' => Sum.elim (fun (r : Unit) => e = .returned (.tuple #[.pointer none, .int .i64 2]) ∧ Sep (fps []) w [] w') (fun (r_ : (Int × Int × Int × Int × List Int) ⊕ Int) => Sum.elim (fun (r : Int × Int × Int × Int × List Int) => ∃ (g2441 : Nat), e = .returned (.tuple #[.pointer (some ⟨g2441, 0, none⟩), .int .i64 0]) ∧ ∃ (g2442 : Nat) (A2443 : Option Addr) (m2444 : Nat) (n2445 : Nat), Sep (fps []) w [b21 g2441 g2442 r.1 r.2.1 r.2.2.1 r.2.2.2.1, b20 g2442 A2443 m2444 n2445 0, r7 A2443 m2444 n2445 r.2.2.2.2] w') (fun (r : Int) => e = .returned (.tuple #[.pointer none, .int .i64 r]) ∧ Sep (fps []) w [] w') r_) r := by
  unfold ground_New.f at H
  go_enter Tryd.func15, Tryd.ntmps15
  go_wp2_with (first | ((with_reducible refine gate_dst (N := 1) rfl ?_); refine box_on ?hg (N := 1) ?hd (cs := #[.int .i64 a1685, .int .i64 a1686, .int .i64 a1687, .int .i64 a1688]) (t := 30) ?hr ?_; (case hd => rfl); (case hg => rfl); (case hr => first | (go_simp; done) | (go_simp; rfl)); intro g2377 hg w2378 hbox hb; replace HS : Aside0 (Sep (fps []) w [b1 g2377 a1685 a1686 a1687 a1688] w2378) := ⟨HS.out.box hg hbox hb⟩; clear hg hbox hb; have hc2380 : w2378.cell? ⟨g2377, 0, none⟩ = some (.int .i64 a1685) := blk_cellv (HS.out.at0) 0 rfl; have hc2381 : w2378.cell? ⟨g2377, 1, none⟩ = some (.int .i64 a1686) := blk_cellv (HS.out.at0) 1 rfl; have hc2382 : w2378.cell? ⟨g2377, 2, none⟩ = some (.int .i64 a1687) := blk_cellv (HS.out.at0) 2 rfl; have hc2383 : w2378.cell? ⟨g2377, 3, none⟩ = some (.int .i64 a1688) := blk_cellv (HS.out.at0) 3 rfl))
  clear hc2380 hc2381 hc2382 hc2383
  obtain ⟨t2384, HA2385, H⟩ := bind_some H
  refine (plan_Of.calls _ a1685 a1686 a1687 a1688 t2384 _ ⟨HGl0.out.pass (l := []) HS.out⟩ ⟨Sep.start _⟩ HA2385).mono ?_
  rintro e_ w2386 ⟨rfl, hS⟩
  replace HS : Aside0 (Sep (fps []) w [b1 g2377 a1685 a1686 a1687 a1688] w2386) := ⟨HS.out.call hS⟩
  clear hS
  by_cases c2407 : t2384.2.2.2.2.2.2.2.2 = 0
  · have H := if_yes c2407 H
    have c2407b0 : (t2384.2.2.2.2.2.2.2.2 == 0) = true := beq_iff_eq.mpr c2407
    have c2407b1 : (t2384.2.2.2.2.2.2.2.2 != 0) = false := bne_eq_false_iff_eq.mpr c2407
    clear c2407
    go_wp2_with (first | ((with_reducible refine gate_dst (N := 4) rfl ?_); refine box_on ?hg (N := 4) ?hd (cs := #[.int .i64 0, .int .i64 0, .int .i64 0, .int .i64 0, .int .i64 0, .int .i64 0, .int .i64 0, .int .i64 0]) (t := 97) ?hr ?_; (case hd => rfl); (case hg => rfl); (case hr => first | (go_simp; done) | (go_simp; rfl)); intro g2387 hg w2388 hbox hb; replace HS : Aside0 (Sep (fps []) w [b1 g2377 a1685 a1686 a1687 a1688, b18 g2387 0 0 0 0 0 0 0 0] w2388) := ⟨HS.out.box hg hbox hb⟩; clear hg hbox hb; have hc2390 : w2388.cell? ⟨g2387, 0, none⟩ = some (.int .i64 0) := blk_cellv (HS.out.at1) 0 rfl; have hz2391 : w2388.frozen? ⟨g2387, 0, none⟩ = false := blk_fz (HS.out.at1) 0; have hc2392 : w2388.cell? ⟨g2387, 1, none⟩ = some (.int .i64 0) := blk_cellv (HS.out.at1) 1 rfl; have hz2393 : w2388.frozen? ⟨g2387, 1, none⟩ = false := blk_fz (HS.out.at1) 1; have hc2394 : w2388.cell? ⟨g2387, 2, none⟩ = some (.int .i64 0) := blk_cellv (HS.out.at1) 2 rfl; have hz2395 : w2388.frozen? ⟨g2387, 2, none⟩ = false := blk_fz (HS.out.at1) 2; have hc2396 : w2388.cell? ⟨g2387, 3, none⟩ = some (.int .i64 0) := blk_cellv (HS.out.at1) 3 rfl; have hz2397 : w2388.frozen? ⟨g2387, 3, none⟩ = false := blk_fz (HS.out.at1) 3; have hc2398 : w2388.cell? ⟨g2387, 4, none⟩ = some (.int .i64 0) := blk_cellv (HS.out.at1) 4 rfl; have hz2399 : w2388.frozen? ⟨g2387, 4, none⟩ = false := blk_fz (HS.out.at1) 4; have hc2400 : w2388.cell? ⟨g2387, 5, none⟩ = some (.int .i64 0) := blk_cellv (HS.out.at1) 5 rfl; have hz2401 : w2388.frozen? ⟨g2387, 5, none⟩ = false := blk_fz (HS.out.at1) 5; have hc2402 : w2388.cell? ⟨g2387, 6, none⟩ = some (.int .i64 0) := blk_cellv (HS.out.at1) 6 rfl; have hz2403 : w2388.frozen? ⟨g2387, 6, none⟩ = false := blk_fz (HS.out.at1) 6; have hc2404 : w2388.cell? ⟨g2387, 7, none⟩ = some (.int .i64 0) := blk_cellv (HS.out.at1) 7 rfl; have hz2405 : w2388.frozen? ⟨g2387, 7, none⟩ = false := blk_fz (HS.out.at1) 7) | ((with_reducible refine gate_store (t := 97) (p := 4) rfl ?_); refine store_event (w1 := (World.setCell (World.setCell (World.setCell (World.setCell (World.setCell (World.setCell (World.setCell (World.setCell w2388 ⟨g2387, 0, none⟩ (.int .i64 t2384.1)) ⟨g2387, 1, none⟩ (.int .i64 t2384.2.1)) ⟨g2387, 2, none⟩ (.int .i64 t2384.2.2.1)) ⟨g2387, 3, none⟩ (.int .i64 t2384.2.2.2.1)) ⟨g2387, 4, none⟩ (.int .i64 t2384.2.2.2.2.1)) ⟨g2387, 5, none⟩ (.int .i64 t2384.2.2.2.2.2.1)) ⟨g2387, 6, none⟩ (.int .i64 t2384.2.2.2.2.2.2.1)) ⟨g2387, 7, none⟩ (.int .i64 t2384.2.2.2.2.2.2.2.1))) rfl (t := 97) (p := 4) rfl rfl ?hr ?_; (case hr => first | (go_simp; done) | (go_simp; rfl)); intro w2406 hst; clear hc2390 hz2391 hc2392 hz2393 hc2394 hz2395 hc2396 hz2397 hc2398 hz2399 hc2400 hz2401 hc2402 hz2403 hc2404 hz2405; replace HS : Aside0 (Sep (fps []) w [b1 g2377 a1685 a1686 a1687 a1688, b18 g2387 t2384.1 t2384.2.1 t2384.2.2.1 t2384.2.2.2.1 t2384.2.2.2.2.1 t2384.2.2.2.2.2.1 t2384.2.2.2.2.2.2.1 t2384.2.2.2.2.2.2.2.1] w2406) := ⟨by rw [hst]; exact HS.out.setAll (l1 := [b1 g2377 a1685 a1686 a1687 a1688]) (l2 := []) [.int .i64 t2384.1, .int .i64 t2384.2.1, .int .i64 t2384.2.2.1, .int .i64 t2384.2.2.2.1, .int .i64 t2384.2.2.2.2.1, .int .i64 t2384.2.2.2.2.2.1, .int .i64 t2384.2.2.2.2.2.2.1, .int .i64 t2384.2.2.2.2.2.2.2.1] rfl⟩; clear hst; have hc2408 : w2406.cell? ⟨g2387, 0, none⟩ = some (.int .i64 t2384.1) := blk_cellv (HS.out.at1) 0 rfl))
    clear hc2408
    obtain ⟨t2409, HA2410, H⟩ := bind_some H
    rcases t2409 with t2411 | t2412
    · have H := sum_l H
      refine (store_New.calls t2384.1 (.inl t2411) _ ⟨HGl0.out.pass (l := []) HS.out⟩ ⟨Sep.start _⟩ HA2410).mono ?_
      rintro e_ w2413 ⟨rfl, hS⟩
      replace HS : Aside0 (Sep (fps []) w [b1 g2377 a1685 a1686 a1687 a1688, b18 g2387 t2384.1 t2384.2.1 t2384.2.2.1 t2384.2.2.2.1 t2384.2.2.2.2.1 t2384.2.2.2.2.2.1 t2384.2.2.2.2.2.2.1 t2384.2.2.2.2.2.2.2.1] w2413) := ⟨HS.out.call hS⟩
      clear hS
      replace HS : Aside0 (Sep (fps []) w [b1 g2377 a1685 a1686 a1687 a1688] w2413) := ⟨HS.out.sub (.cons_cons _ (.cons _ .slnil))⟩
      replace HS : Aside0 (Sep (fps []) w [] w2413) := ⟨HS.out.sub (.cons _ .slnil)⟩
      go_wp2_with fail
      go_ret2
      rw [← some_eq H]
      exact ⟨(by first | rfl | (simp [IntKind.wrap_u32]; done)), HS.out⟩
    · have H := sum_r H
      refine (store_New.calls t2384.1 (.inr t2412) _ ⟨HGl0.out.pass (l := []) HS.out⟩ ⟨Sep.start _⟩ HA2410).mono ?_
      rintro e_ w2414 ⟨g2417, rfl, A2418, m2419, n2420, hS⟩
      replace HS : Aside0 (Sep (fps []) w [b20 g2417 A2418 m2419 n2420 0, r7 A2418 m2419 n2420 t2412, b1 g2377 a1685 a1686 a1687 a1688, b18 g2387 t2384.1 t2384.2.1 t2384.2.2.1 t2384.2.2.2.1 t2384.2.2.2.2.1 t2384.2.2.2.2.2.1 t2384.2.2.2.2.2.2.1 t2384.2.2.2.2.2.2.2.1] w2414) := ⟨HS.out.call hS⟩
      clear hS
      obtain rfl := (row_len (HS.out.at1)).symm
      replace HS : Aside0 (Sep (fps []) w [b20 g2417 A2418 t2412.length n2420 0, r7 A2418 t2412.length n2420 t2412, b1 g2377 a1685 a1686 a1687 a1688] w2414) := ⟨HS.out.sub (.cons_cons _ (.cons_cons _ (.cons_cons _ (.cons _ .slnil))))⟩
      have hc2422 : w2414.cell? ⟨g2377, 0, none⟩ = some (.int .i64 a1685) := blk_cellv (HS.out.at2) 0 rfl
      have hc2423 : w2414.cell? ⟨g2377, 1, none⟩ = some (.int .i64 a1686) := blk_cellv (HS.out.at2) 1 rfl
      have hc2424 : w2414.cell? ⟨g2377, 2, none⟩ = some (.int .i64 a1687) := blk_cellv (HS.out.at2) 2 rfl
      have hc2425 : w2414.cell? ⟨g2377, 3, none⟩ = some (.int .i64 a1688) := blk_cellv (HS.out.at2) 3 rfl
      go_wp2_with (first | ((with_reducible refine gate_dst (N := 28) rfl ?_); refine box_on ?hg (N := 28) ?hd (cs := #[.pointer (some ⟨g2417, 0, none⟩), .int .i64 a1685, .int .i64 a1686, .int .i64 a1687, .int .i64 a1688]) (t := 106) ?hr ?_; (case hd => rfl); (case hg => rfl); (case hr => first | (go_simp; done) | (go_simp; rfl)); intro g2426 hg w2427 hbox hb; clear hc2422 hc2423 hc2424 hc2425; replace HS : Aside0 (Sep (fps []) w [b20 g2417 A2418 t2412.length n2420 0, r7 A2418 t2412.length n2420 t2412, b1 g2377 a1685 a1686 a1687 a1688, b21 g2426 g2417 a1685 a1686 a1687 a1688] w2427) := ⟨HS.out.box hg hbox hb⟩; clear hg hbox hb; replace HS : Aside0 (Sep (fps []) w [b20 g2417 A2418 t2412.length n2420 0, r7 A2418 t2412.length n2420 t2412, b21 g2426 g2417 a1685 a1686 a1687 a1688] w2427) := ⟨HS.out.sub (.cons_cons _ (.cons_cons _ (.cons _ (.cons_cons _ .slnil))))⟩))
      go_ret2
      rw [← some_eq H]
      exact ⟨g2426, (by first | rfl | (simp [IntKind.wrap_u32]; done)), g2417, A2418, t2412.length, n2420, ((((HS.out).front 1 (by simp)).front 1 (by simp)).front 2 (by simp)).keep (l := [b21 g2426 g2417 a1685 a1686 a1687 a1688, b20 g2417 A2418 t2412.length n2420 0, r7 A2418 t2412.length n2420 t2412]) (rest := [])⟩
  · have H := if_no c2407 H
    have c2407b0 : (t2384.2.2.2.2.2.2.2.2 == 0) = false := beq_eq_false_iff_ne.mpr c2407
    have c2407b1 : (t2384.2.2.2.2.2.2.2.2 != 0) = true := bne_iff_ne.mpr c2407
    clear c2407
    go_wp2_with (first | ((with_reducible refine gate_dst (N := 4) rfl ?_); refine box_on ?hg (N := 4) ?hd (cs := #[.int .i64 0, .int .i64 0, .int .i64 0, .int .i64 0, .int .i64 0, .int .i64 0, .int .i64 0, .int .i64 0]) (t := 97) ?hr ?_; (case hd => rfl); (case hg => rfl); (case hr => first | (go_simp; done) | (go_simp; rfl)); intro g2387 hg w2388 hbox hb; replace HS : Aside0 (Sep (fps []) w [b1 g2377 a1685 a1686 a1687 a1688, b18 g2387 0 0 0 0 0 0 0 0] w2388) := ⟨HS.out.box hg hbox hb⟩; clear hg hbox hb; have hc2390 : w2388.cell? ⟨g2387, 0, none⟩ = some (.int .i64 0) := blk_cellv (HS.out.at1) 0 rfl; have hz2391 : w2388.frozen? ⟨g2387, 0, none⟩ = false := blk_fz (HS.out.at1) 0; have hc2392 : w2388.cell? ⟨g2387, 1, none⟩ = some (.int .i64 0) := blk_cellv (HS.out.at1) 1 rfl; have hz2393 : w2388.frozen? ⟨g2387, 1, none⟩ = false := blk_fz (HS.out.at1) 1; have hc2394 : w2388.cell? ⟨g2387, 2, none⟩ = some (.int .i64 0) := blk_cellv (HS.out.at1) 2 rfl; have hz2395 : w2388.frozen? ⟨g2387, 2, none⟩ = false := blk_fz (HS.out.at1) 2; have hc2396 : w2388.cell? ⟨g2387, 3, none⟩ = some (.int .i64 0) := blk_cellv (HS.out.at1) 3 rfl; have hz2397 : w2388.frozen? ⟨g2387, 3, none⟩ = false := blk_fz (HS.out.at1) 3; have hc2398 : w2388.cell? ⟨g2387, 4, none⟩ = some (.int .i64 0) := blk_cellv (HS.out.at1) 4 rfl; have hz2399 : w2388.frozen? ⟨g2387, 4, none⟩ = false := blk_fz (HS.out.at1) 4; have hc2400 : w2388.cell? ⟨g2387, 5, none⟩ = some (.int .i64 0) := blk_cellv (HS.out.at1) 5 rfl; have hz2401 : w2388.frozen? ⟨g2387, 5, none⟩ = false := blk_fz (HS.out.at1) 5; have hc2402 : w2388.cell? ⟨g2387, 6, none⟩ = some (.int .i64 0) := blk_cellv (HS.out.at1) 6 rfl; have hz2403 : w2388.frozen? ⟨g2387, 6, none⟩ = false := blk_fz (HS.out.at1) 6; have hc2404 : w2388.cell? ⟨g2387, 7, none⟩ = some (.int .i64 0) := blk_cellv (HS.out.at1) 7 rfl; have hz2405 : w2388.frozen? ⟨g2387, 7, none⟩ = false := blk_fz (HS.out.at1) 7) | ((with_reducible refine gate_store (t := 97) (p := 4) rfl ?_); refine store_event (w1 := (World.setCell (World.setCell (World.setCell (World.setCell (World.setCell (World.setCell (World.setCell (World.setCell w2388 ⟨g2387, 0, none⟩ (.int .i64 t2384.1)) ⟨g2387, 1, none⟩ (.int .i64 t2384.2.1)) ⟨g2387, 2, none⟩ (.int .i64 t2384.2.2.1)) ⟨g2387, 3, none⟩ (.int .i64 t2384.2.2.2.1)) ⟨g2387, 4, none⟩ (.int .i64 t2384.2.2.2.2.1)) ⟨g2387, 5, none⟩ (.int .i64 t2384.2.2.2.2.2.1)) ⟨g2387, 6, none⟩ (.int .i64 t2384.2.2.2.2.2.2.1)) ⟨g2387, 7, none⟩ (.int .i64 t2384.2.2.2.2.2.2.2.1))) rfl (t := 97) (p := 4) rfl rfl ?hr ?_; (case hr => first | (go_simp; done) | (go_simp; rfl)); intro w2406 hst; clear hc2390 hz2391 hc2392 hz2393 hc2394 hz2395 hc2396 hz2397 hc2398 hz2399 hc2400 hz2401 hc2402 hz2403 hc2404 hz2405; replace HS : Aside0 (Sep (fps []) w [b1 g2377 a1685 a1686 a1687 a1688, b18 g2387 t2384.1 t2384.2.1 t2384.2.2.1 t2384.2.2.2.1 t2384.2.2.2.2.1 t2384.2.2.2.2.2.1 t2384.2.2.2.2.2.2.1 t2384.2.2.2.2.2.2.2.1] w2406) := ⟨by rw [hst]; exact HS.out.setAll (l1 := [b1 g2377 a1685 a1686 a1687 a1688]) (l2 := []) [.int .i64 t2384.1, .int .i64 t2384.2.1, .int .i64 t2384.2.2.1, .int .i64 t2384.2.2.2.1, .int .i64 t2384.2.2.2.2.1, .int .i64 t2384.2.2.2.2.2.1, .int .i64 t2384.2.2.2.2.2.2.1, .int .i64 t2384.2.2.2.2.2.2.2.1] rfl⟩; clear hst; replace HS : Aside0 (Sep (fps []) w [] w2406) := ⟨HS.out.sub (.cons _ (.cons _ .slnil))⟩))
    go_ret2
    rw [← some_eq H]
    exact ⟨(by first | rfl | (simp [IntKind.wrap_u32]; done)), HS.out⟩

set_option maxHeartbeats 30000000 in
set_option maxRecDepth 100000 in
theorem chain_of.calls (l2499 : List Int) (a2504 : Int) (a2505 : Int) (a2506 : Int) (a2507 : Int) (a2508 : Int) (a2509 : Int) (g2495 : Nat) (g2497 : Nat) (A2500 : Option Addr) (m2501 : Nat) (n2502 : Nat) (r : Int × Int × Int × Bool) (w : World)  (HGl0 : Aside0 (Gl 0 #[.int .i64 0, .int .i64 0, .int .i64 0, .int .i64 0, .int .i64 0] (fps [b21 g2495 g2497 a2505 a2506 a2507 a2508, b20 g2497 A2500 m2501 n2502 a2504, r7 A2500 m2501 n2502 l2499]) w)) (HS : Aside0 (Sep (fps [b21 g2495 g2497 a2505 a2506 a2507 a2508, b20 g2497 A2500 m2501 n2502 a2504, r7 A2500 m2501 n2502 l2499]) w [b21 g2495 g2497 a2505 a2506 a2507 a2508, b20 g2497 A2500 m2501 n2502 a2504, r7 A2500 m2501 n2502 l2499] w)) (H : Aside0 (chain_of.f l2499 a2504 a2505 a2506 a2507 a2508 a2509 = some r)) :
    Calls Tryd.prog 139 #[.pointer (some ⟨g2495, 0, none⟩), .int .i64 a2509] w fun e w' => e = .returned (.tuple #[.agg #[.int .i64 r.1, .int .i64 r.2.1, .int .i64 r.2.2.1], .bool r.2.2.2]) ∧ Sep (fps [b21 g2495 g2497 a2505 a2506 a2507 a2508, b20 g2497 A2500 m2501 n2502 a2504, r7 A2500 m2501 n2502 l2499]) w [b21 g2495 g2497 a2505 a2506 a2507 a2508, b20 g2497 A2500 m2501 n2502 a2504, r7 A2500 m2501 n2502 l2499] w' := by
  generalize (fps [b21 g2495 g2497 a2505 a2506 a2507 a2508, b20 g2497 A2500 m2501 n2502 a2504, r7 A2500 m2501 n2502 l2499]) = FF at HS HGl0 ⊢
  obtain rfl := (row_len (HS.out.at2)).symm
  unfold chain_of.f at H
  go_enter Tryd.func139, Tryd.ntmps139
  by_cases c2513 : a2509 < 0
  · have H := if_yes c2513 H
    have c2513b0 : decide (a2509 < 0) = true := decide_eq_true c2513
    clear c2513
    go_wp2_with (first | ((with_reducible refine gate_dst (N := 4) rfl ?_); refine box_on ?hg (N := 4) ?hd (cs := #[.int .i64 0, .int .i64 0, .int .i64 0]) (t := 166) ?hr ?_; (case hd => rfl); (case hg => rfl); (case hr => first | (go_simp; done) | (go_simp; rfl)); intro g2510 hg w2511 hbox hb; replace HS : Aside0 (Sep FF w [b21 g2495 g2497 a2505 a2506 a2507 a2508, b20 g2497 A2500 l2499.length n2502 a2504, r7 A2500 l2499.length n2502 l2499, b3 g2510 0 0 0] w2511) := ⟨HS.out.box hg hbox hb⟩; clear hg hbox hb; have hc2514 : w2511.cell? ⟨g2510, 0, none⟩ = some (.int .i64 0) := blk_cellv (HS.out.at3) 0 rfl; have hz2515 : w2511.frozen? ⟨g2510, 0, none⟩ = false := blk_fz (HS.out.at3) 0; have hc2516 : w2511.cell? ⟨g2510, 1, none⟩ = some (.int .i64 0) := blk_cellv (HS.out.at3) 1 rfl; have hz2517 : w2511.frozen? ⟨g2510, 1, none⟩ = false := blk_fz (HS.out.at3) 1; have hc2518 : w2511.cell? ⟨g2510, 2, none⟩ = some (.int .i64 0) := blk_cellv (HS.out.at3) 2 rfl; have hz2519 : w2511.frozen? ⟨g2510, 2, none⟩ = false := blk_fz (HS.out.at3) 2) | ((with_reducible refine gate_store (t := 166) (p := 4) rfl ?_); refine store_event (w1 := (World.setCell (World.setCell (World.setCell w2511 ⟨g2510, 0, none⟩ (.int .i64 0)) ⟨g2510, 1, none⟩ (.int .i64 0)) ⟨g2510, 2, none⟩ (.int .i64 0))) rfl (t := 166) (p := 4) rfl rfl ?hr ?_; (case hr => first | (go_simp; done) | (go_simp; rfl)); intro w2520 hst; clear hc2514 hz2515 hc2516 hz2517 hc2518 hz2519; replace HS : Aside0 (Sep FF w [b21 g2495 g2497 a2505 a2506 a2507 a2508, b20 g2497 A2500 l2499.length n2502 a2504, r7 A2500 l2499.length n2502 l2499, b3 g2510 0 0 0] w2520) := ⟨by rw [hst]; exact HS.out.setAll (l1 := [b21 g2495 g2497 a2505 a2506 a2507 a2508, b20 g2497 A2500 l2499.length n2502 a2504, r7 A2500 l2499.length n2502 l2499]) (l2 := []) [.int .i64 0, .int .i64 0, .int .i64 0] rfl⟩; clear hst))
    have hc2521 : w2520.cell? ⟨g2510, 0, none⟩ = some (.int .i64 0) := blk_cellv (HS.out.at3) 0 rfl
    have hc2522 : w2520.cell? ⟨g2510, 1, none⟩ = some (.int .i64 0) := blk_cellv (HS.out.at3) 1 rfl
    have hc2523 : w2520.cell? ⟨g2510, 2, none⟩ = some (.int .i64 0) := blk_cellv (HS.out.at3) 2 rfl
    refine bodyPost_ret (v := .tuple #[.agg #[.int .i64 0, .int .i64 0, .int .i64 0], .bool false]) (by simp [results, Tryd.results139, go_sem, hc2521, hc2522, hc2523]) rfl ?_
    rw [← some_eq H]
    exact ⟨(by first | rfl | (simp [IntKind.wrap_u32]; done)), HS.out.sub (.cons_cons _ (.cons_cons _ (.cons_cons _ (.cons _ .slnil))))⟩
  · have H := if_no c2513 H
    have c2513b0 : decide (a2509 < 0) = false := decide_eq_false c2513
    clear c2513
    by_cases c2524 : a2509 > 1
    · have H := if_yes c2524 H
      have c2524b0 : decide (1 < a2509) = true := decide_eq_true c2524
      clear c2524
      go_wp2_with (first | ((with_reducible refine gate_dst (N := 4) rfl ?_); refine box_on ?hg (N := 4) ?hd (cs := #[.int .i64 0, .int .i64 0, .int .i64 0]) (t := 166) ?hr ?_; (case hd => rfl); (case hg => rfl); (case hr => first | (go_simp; done) | (go_simp; rfl)); intro g2510 hg w2511 hbox hb; replace HS : Aside0 (Sep FF w [b21 g2495 g2497 a2505 a2506 a2507 a2508, b20 g2497 A2500 l2499.length n2502 a2504, r7 A2500 l2499.length n2502 l2499, b3 g2510 0 0 0] w2511) := ⟨HS.out.box hg hbox hb⟩; clear hg hbox hb; have hc2525 : w2511.cell? ⟨g2510, 0, none⟩ = some (.int .i64 0) := blk_cellv (HS.out.at3) 0 rfl; have hz2526 : w2511.frozen? ⟨g2510, 0, none⟩ = false := blk_fz (HS.out.at3) 0; have hc2527 : w2511.cell? ⟨g2510, 1, none⟩ = some (.int .i64 0) := blk_cellv (HS.out.at3) 1 rfl; have hz2528 : w2511.frozen? ⟨g2510, 1, none⟩ = false := blk_fz (HS.out.at3) 1; have hc2529 : w2511.cell? ⟨g2510, 2, none⟩ = some (.int .i64 0) := blk_cellv (HS.out.at3) 2 rfl; have hz2530 : w2511.frozen? ⟨g2510, 2, none⟩ = false := blk_fz (HS.out.at3) 2) | ((with_reducible refine gate_store (t := 166) (p := 4) rfl ?_); refine store_event (w1 := (World.setCell (World.setCell (World.setCell w2511 ⟨g2510, 0, none⟩ (.int .i64 0)) ⟨g2510, 1, none⟩ (.int .i64 0)) ⟨g2510, 2, none⟩ (.int .i64 0))) rfl (t := 166) (p := 4) rfl rfl ?hr ?_; (case hr => first | (go_simp; done) | (go_simp; rfl)); intro w2531 hst; clear hc2525 hz2526 hc2527 hz2528 hc2529 hz2530; replace HS : Aside0 (Sep FF w [b21 g2495 g2497 a2505 a2506 a2507 a2508, b20 g2497 A2500 l2499.length n2502 a2504, r7 A2500 l2499.length n2502 l2499, b3 g2510 0 0 0] w2531) := ⟨by rw [hst]; exact HS.out.setAll (l1 := [b21 g2495 g2497 a2505 a2506 a2507 a2508, b20 g2497 A2500 l2499.length n2502 a2504, r7 A2500 l2499.length n2502 l2499]) (l2 := []) [.int .i64 0, .int .i64 0, .int .i64 0] rfl⟩; clear hst))
      have hc2532 : w2531.cell? ⟨g2510, 0, none⟩ = some (.int .i64 0) := blk_cellv (HS.out.at3) 0 rfl
      have hc2533 : w2531.cell? ⟨g2510, 1, none⟩ = some (.int .i64 0) := blk_cellv (HS.out.at3) 1 rfl
      have hc2534 : w2531.cell? ⟨g2510, 2, none⟩ = some (.int .i64 0) := blk_cellv (HS.out.at3) 2 rfl
      refine bodyPost_ret (v := .tuple #[.agg #[.int .i64 0, .int .i64 0, .int .i64 0], .bool false]) (by simp [results, Tryd.results139, go_sem, hc2532, hc2533, hc2534]) rfl ?_
      rw [← some_eq H]
      exact ⟨(by first | rfl | (simp [IntKind.wrap_u32]; done)), HS.out.sub (.cons_cons _ (.cons_cons _ (.cons_cons _ (.cons _ .slnil))))⟩
    · have H := if_no c2524 H
      have c2524b0 : decide (1 < a2509) = false := decide_eq_false c2524
      clear c2524
      go_wp2_with (first | ((with_reducible refine gate_dst (N := 4) rfl ?_); refine box_on ?hg (N := 4) ?hd (cs := #[.int .i64 0, .int .i64 0, .int .i64 0]) (t := 166) ?hr ?_; (case hd => rfl); (case hg => rfl); (case hr => first | (go_simp; done) | (go_simp; rfl)); intro g2510 hg w2511 hbox hb; replace HS : Aside0 (Sep FF w [b21 g2495 g2497 a2505 a2506 a2507 a2508, b20 g2497 A2500 l2499.length n2502 a2504, r7 A2500 l2499.length n2502 l2499, b3 g2510 0 0 0] w2511) := ⟨HS.out.box hg hbox hb⟩; clear hg hbox hb; have hc2535 : w2511.cell? ⟨g2510, 0, none⟩ = some (.int .i64 0) := blk_cellv (HS.out.at3) 0 rfl; have hz2536 : w2511.frozen? ⟨g2510, 0, none⟩ = false := blk_fz (HS.out.at3) 0; have hc2537 : w2511.cell? ⟨g2510, 1, none⟩ = some (.int .i64 0) := blk_cellv (HS.out.at3) 1 rfl; have hz2538 : w2511.frozen? ⟨g2510, 1, none⟩ = false := blk_fz (HS.out.at3) 1; have hc2539 : w2511.cell? ⟨g2510, 2, none⟩ = some (.int .i64 0) := blk_cellv (HS.out.at3) 2 rfl; have hz2540 : w2511.frozen? ⟨g2510, 2, none⟩ = false := blk_fz (HS.out.at3) 2) | ((with_reducible refine gate_store (t := 166) (p := 4) rfl ?_); refine store_event (w1 := (World.setCell (World.setCell (World.setCell w2511 ⟨g2510, 0, none⟩ (.int .i64 (wrap64 (3 * a2509)))) ⟨g2510, 1, none⟩ (.int .i64 (wrap64 ((wrap64 (3 * a2509)) + 1)))) ⟨g2510, 2, none⟩ (.int .i64 (wrap64 ((wrap64 (3 * a2509)) + 2))))) rfl (t := 166) (p := 4) rfl rfl ?hr ?_; (case hr => first | (go_simp; done) | (go_simp; rfl)); intro w2541 hst; clear hc2535 hz2536 hc2537 hz2538 hc2539 hz2540; replace HS : Aside0 (Sep FF w [b21 g2495 g2497 a2505 a2506 a2507 a2508, b20 g2497 A2500 l2499.length n2502 a2504, r7 A2500 l2499.length n2502 l2499, b3 g2510 (wrap64 (3 * a2509)) (wrap64 ((wrap64 (3 * a2509)) + 1)) (wrap64 ((wrap64 (3 * a2509)) + 2))] w2541) := ⟨by rw [hst]; exact HS.out.setAll (l1 := [b21 g2495 g2497 a2505 a2506 a2507 a2508, b20 g2497 A2500 l2499.length n2502 a2504, r7 A2500 l2499.length n2502 l2499]) (l2 := []) [.int .i64 (wrap64 (3 * a2509)), .int .i64 (wrap64 ((wrap64 (3 * a2509)) + 1)), .int .i64 (wrap64 ((wrap64 (3 * a2509)) + 2))] rfl⟩; clear hst))
      have hc2542 : w2541.cell? ⟨g2510, 0, none⟩ = some (.int .i64 (wrap64 (3 * a2509))) := blk_cellv (HS.out.at3) 0 rfl
      have hc2543 : w2541.cell? ⟨g2510, 1, none⟩ = some (.int .i64 (wrap64 ((wrap64 (3 * a2509)) + 1))) := blk_cellv (HS.out.at3) 1 rfl
      have hc2544 : w2541.cell? ⟨g2510, 2, none⟩ = some (.int .i64 (wrap64 ((wrap64 (3 * a2509)) + 2))) := blk_cellv (HS.out.at3) 2 rfl
      refine bodyPost_ret (v := .tuple #[.agg #[.int .i64 (wrap64 (3 * a2509)), .int .i64 (wrap64 ((wrap64 (3 * a2509)) + 1)), .int .i64 (wrap64 ((wrap64 (3 * a2509)) + 2))], .bool true]) (by simp [results, Tryd.results139, go_sem, hc2542, hc2543, hc2544]) rfl ?_
      rw [← some_eq H]
      exact ⟨(by first | rfl | (simp [IntKind.wrap_u32]; done)), HS.out.sub (.cons_cons _ (.cons_cons _ (.cons_cons _ (.cons _ .slnil))))⟩

set_option maxHeartbeats 30000000 in
set_option maxRecDepth 100000 in
theorem ground_Ground_all.calls (l2581 : List Int) (a2586 : Int) (a2587 : Int) (a2588 : Int) (a2589 : Int) (a2590 : Int) (g2577 : Nat) (g2579 : Nat) (A2582 : Option Addr) (m2583 : Nat) (n2584 : Nat) (r : Unit) (w : World)  (HGl0 : Aside0 (Gl 0 #[.int .i64 0, .int .i64 0, .int .i64 0, .int .i64 0, .int .i64 0] (fps [b21 g2577 g2579 a2587 a2588 a2589 a2590, b20 g2579 A2582 m2583 n2584 a2586, r7 A2582 m2583 n2584 l2581]) w)) (HS : Aside0 (Sep (fps [b21 g2577 g2579 a2587 a2588 a2589 a2590, b20 g2579 A2582 m2583 n2584 a2586, r7 A2582 m2583 n2584 l2581]) w [b21 g2577 g2579 a2587 a2588 a2589 a2590, b20 g2579 A2582 m2583 n2584 a2586, r7 A2582 m2583 n2584 l2581] w)) (H : Aside0 (ground_Ground_all.f l2581 a2586 a2587 a2588 a2589 a2590 = some r)) :
    Calls Tryd.prog 70 #[.pointer (some ⟨g2577, 0, none⟩)] w fun e w' => e = .returned (.pointer (some ⟨g2579, 0, none⟩)) ∧ Sep (fps [b21 g2577 g2579 a2587 a2588 a2589 a2590, b20 g2579 A2582 m2583 n2584 a2586, r7 A2582 m2583 n2584 l2581]) w [b21 g2577 g2579 a2587 a2588 a2589 a2590, b20 g2579 A2582 m2583 n2584 a2586, r7 A2582 m2583 n2584 l2581] w' := by
  generalize (fps [b21 g2577 g2579 a2587 a2588 a2589 a2590, b20 g2579 A2582 m2583 n2584 a2586, r7 A2582 m2583 n2584 l2581]) = FF at HS HGl0 ⊢
  obtain rfl := (row_len (HS.out.at2)).symm
  unfold ground_Ground_all.f at H
  go_enter Tryd.func70, Tryd.ntmps70
  have hc2591 : w.cell? ⟨g2577, 0, none⟩ = some (.pointer (some ⟨g2579, 0, none⟩)) := blk_cellv (HS.out.at0) 0 rfl
  go_wp2_with fail
  clear hc2591
  go_ret
  clear H
  exact ⟨(by first | rfl | (simp [IntKind.wrap_u32]; done)), HS.out⟩

set_option maxHeartbeats 30000000 in
set_option maxRecDepth 100000 in
theorem store_Store_has.calls (l2611 : List Int) (a2616 : Int) (a2617 : Int) (g2609 : Nat) (A2612 : Option Addr) (m2613 : Nat) (n2614 : Nat) (r : Bool) (w : World)  (HGl0 : Aside0 (Gl 0 #[.int .i64 0, .int .i64 0, .int .i64 0, .int .i64 0, .int .i64 0] (fps [b20 g2609 A2612 m2613 n2614 a2616, r7 A2612 m2613 n2614 l2611]) w)) (HS : Aside0 (Sep (fps [b20 g2609 A2612 m2613 n2614 a2616, r7 A2612 m2613 n2614 l2611]) w [b20 g2609 A2612 m2613 n2614 a2616, r7 A2612 m2613 n2614 l2611] w)) (H : Aside0 (store_Store_has.f l2611 a2616 a2617 = some r)) :
    Calls Tryd.prog 127 #[.pointer (some ⟨g2609, 0, none⟩), .int .i64 a2617] w fun e w' => e = .returned (.bool r) ∧ Sep (fps [b20 g2609 A2612 m2613 n2614 a2616, r7 A2612 m2613 n2614 l2611]) w [b20 g2609 A2612 m2613 n2614 a2616, r7 A2612 m2613 n2614 l2611] w' := by
  generalize (fps [b20 g2609 A2612 m2613 n2614 a2616, r7 A2612 m2613 n2614 l2611]) = FF at HS HGl0 ⊢
  obtain rfl := (row_len (HS.out.at1)).symm
  unfold store_Store_has.f at H
  go_enter Tryd.func127, Tryd.ntmps127
  by_cases c2618 : a2617 ≥ 0
  · have H := if_yes c2618 H
    have c2618b0 : decide (0 ≤ a2617) = true := decide_eq_true c2618
    clear c2618
    have hc2619 : w.cell? ⟨g2609, 0, none⟩ = some (.slice A2612 l2611.length n2614) := blk_cellv (HS.out.at0) 0 rfl
    go_wp2_with fail
    clear hc2619
    go_ret
    rw [← some_eq H]
    exact ⟨(by first | rfl | (simp [IntKind.wrap_u32]; done)), HS.out⟩
  · have H := if_no c2618 H
    have c2618b0 : decide (0 ≤ a2617) = false := decide_eq_false c2618
    clear c2618
    go_wp2_with fail
    go_ret
    rw [← some_eq H]
    exact ⟨(by first | rfl | (simp [IntKind.wrap_u32]; done)), HS.out⟩

set_option maxHeartbeats 30000000 in
set_option maxRecDepth 100000 in
theorem atomic_Uint64_Add.calls (l2627 : List Int) (a2632 : Int) (a2633 : Int) (g2625 : Nat) (A2628 : Option Addr) (m2629 : Nat) (n2630 : Nat) (r : Int × Int) (w : World)  (HGl0 : Aside0 (Gl 0 #[.int .i64 0, .int .i64 0, .int .i64 0, .int .i64 0, .int .i64 0] (fps [b20 g2625 A2628 m2629 n2630 a2632, r7 A2628 m2629 n2630 l2627]) w)) (HS : Aside0 (Sep (fps [b20 g2625 A2628 m2629 n2630 a2632, r7 A2628 m2629 n2630 l2627]) w [b20 g2625 A2628 m2629 n2630 a2632, r7 A2628 m2629 n2630 l2627] w)) (H : Aside0 (atomic_Uint64_Add.f l2627 a2632 a2633 = some r)) :
    Calls Tryd.prog 128 #[.pointer (some ⟨g2625, 1, none⟩), .int .u64 a2633] w fun e w' => e = .returned (.int .u64 r.1) ∧ Sep (fps [b20 g2625 A2628 m2629 n2630 a2632, r7 A2628 m2629 n2630 l2627]) w [b20 g2625 A2628 m2629 n2630 r.2, r7 A2628 m2629 n2630 l2627] w' := by
  generalize (fps [b20 g2625 A2628 m2629 n2630 a2632, r7 A2628 m2629 n2630 l2627]) = FF at HS HGl0 ⊢
  obtain rfl := (row_len (HS.out.at1)).symm
  unfold atomic_Uint64_Add.f at H
  go_enter Tryd.func128, Tryd.ntmps128
  obtain ⟨y2643, HA2644, H⟩ := bind_some H
  have hc2640 : w.cell? ⟨g2625, 1, none⟩ = some (.int .u64 a2632) := blk_cellv (HS.out.at0) 1 rfl
  have hz2642 : w.frozen? ⟨g2625, 1, none⟩ = false := blk_fz (HS.out.at0) 1
  have hn2641 : (callFunc 153 #[.pointer (some ⟨g2625, 1, none⟩), .int .u64 a2633]).run Tryd.prog w = .ok (.value (.int .u64 y2643)) ((World.setCell w ⟨g2625, 1, none⟩ (.int .u64 y2643))) := (some_eq HA2644) ▸ run_call_add Tryd.func153 (by kernel_rfl) (by kernel_rfl) (by kernel_rfl) .u64 (by kernel_rfl) hc2640 hz2642 (by rfl)
  go_wp2_with (first | ((with_reducible refine gate_dst (N := 9) rfl ?_); refine run_on2 (by rfl) (w1 := (World.setCell w ⟨g2625, 1, none⟩ (.int .u64 y2643))) (v := .int .u64 y2643) ?hr ?_; (case hr => first | (go_simp; done) | (go_simp; rfl)); intro w2645 hst; clear hc2640 hz2642; have hq0 : Sep FF w [b20 g2625 A2628 l2627.length n2630 y2643, r7 A2628 l2627.length n2630 l2627] (World.setCell w ⟨g2625, 1, none⟩ (.int .u64 y2643)) := (HS.out).set1 (l1 := []) (l2 := [r7 A2628 l2627.length n2630 l2627]) 1 (.int .u64 y2643); replace HS : Aside0 (Sep FF w [b20 g2625 A2628 l2627.length n2630 y2643, r7 A2628 l2627.length n2630 l2627] w2645) := ⟨by rw [hst]; exact hq0⟩; clear hst hn2641 hq0))
  go_ret
  rw [← some_eq H]
  exact ⟨(by first | rfl | (simp [IntKind.wrap_u32]; done)), HS.out⟩

set_option maxHeartbeats 30000000 in
set_option maxRecDepth 100000 in
theorem store_Store_Get.calls (l2601 : List Int) (a2606 : Int) (a2607 : Int) (g2599 : Nat) (A2602 : Option Addr) (m2603 : Nat) (n2604 : Nat) (r : Int × Int) (w : World)  (HGl0 : Aside0 (Gl 0 #[.int .i64 0, .int .i64 0, .int .i64 0, .int .i64 0, .int .i64 0] (fps [b20 g2599 A2602 m2603 n2604 a2606, r7 A2602 m2603 n2604 l2601]) w)) (HS : Aside0 (Sep (fps [b20 g2599 A2602 m2603 n2604 a2606, r7 A2602 m2603 n2604 l2601]) w [b20 g2599 A2602 m2603 n2604 a2606, r7 A2602 m2603 n2604 l2601] w)) (H : Aside0 (store_Store_Get.f l2601 a2606 a2607 = some r)) :
    Calls Tryd.prog 130 #[.pointer (some ⟨g2599, 0, none⟩), .int .i64 a2607] w fun e w' => e = .returned (.int .u32 r.1) ∧ Sep (fps [b20 g2599 A2602 m2603 n2604 a2606, r7 A2602 m2603 n2604 l2601]) w [b20 g2599 A2602 m2603 n2604 r.2, r7 A2602 m2603 n2604 l2601] w' := by
  generalize (fps [b20 g2599 A2602 m2603 n2604 a2606, r7 A2602 m2603 n2604 l2601]) = FF at HS HGl0 ⊢
  obtain rfl := (row_len (HS.out.at1)).symm
  unfold store_Store_Get.f at H
  go_enter Tryd.func130, Tryd.ntmps130
  go_wp2_with fail
  obtain ⟨t2655, HA2656, H⟩ := bind_some H
  refine (store_Store_has.calls l2601 a2606 a2607 g2599 A2602 l2601.length n2604 t2655 _ ⟨HGl0.out.pass HS.out⟩ ⟨HS.out.begin⟩ HA2656).mono ?_
  rintro e_ w2657 ⟨rfl, hS⟩
  replace HS : Aside0 (Sep FF w [b20 g2599 A2602 l2601.length n2604 a2606, r7 A2602 l2601.length n2604 l2601] w2657) := ⟨HS.out.call hS⟩
  clear hS
  by_cases c2658 : t2655 = true
  · have H := if_yes c2658 H
    have c2658b0 : t2655 = true := c2658
    have c2658b1 : (!t2655) = false := by rw [c2658b0]; rfl
    try rw [c2658b1]
    clear c2658
    go_wp2_with fail
    obtain ⟨t2659, HA2660, H⟩ := bind_some H
    refine (atomic_Uint64_Add.calls l2601 a2606 1 g2599 A2602 l2601.length n2604 t2659 _ ⟨HGl0.out.pass HS.out⟩ ⟨HS.out.begin⟩ HA2660).mono ?_
    rintro e_ w2661 ⟨rfl, hS⟩
    replace HS : Aside0 (Sep FF w [b20 g2599 A2602 l2601.length n2604 t2659.2, r7 A2602 l2601.length n2604 l2601] w2661) := ⟨HS.out.call hS⟩
    clear hS
    by_cases c2663 : 0 ≤ a2607
    · have H := if_yes c2663 H
      have c2663b0 : decide (0 ≤ a2607) = true := decide_eq_true c2663
      have c2663p : (0 ≤ a2607) = True := eq_true c2663
      clear c2663
      by_cases c2664 : a2607 < (l2601.length : Int)
      · have H := if_yes c2664 H
        have c2664b0 : decide (a2607 < (l2601.length : Int)) = true := decide_eq_true c2664
        have c2664p : (a2607 < (l2601.length : Int)) = True := eq_true c2664
        clear c2664
        have hc2662 : w2661.cell? ⟨g2599, 0, none⟩ = some (.slice A2602 l2601.length n2604) := blk_cellv (HS.out.at0) 0 rfl
        obtain ⟨g2665, ea⟩ := row_at (HS.out.at1) (by have := (of_decide_eq_true c2663b0); have := (of_decide_eq_true c2664b0); omega); cases ea
        have hx2666 := C_at_int (row_Ci (HS.out.at1)) a2607 (of_decide_eq_true c2663b0) (of_decide_eq_true c2664b0)
        have hx2667 : w2661.cell? ⟨g2665, (a2607).toNat, none⟩ = some (.int .u32 (rd l2601 a2607)) := (row_get 0 (HS.out.at1) a2607 (of_decide_eq_true c2663b0) (of_decide_eq_true c2664b0)).1
        go_wp2_with fail
        clear hc2662 hx2666 hx2667
        go_ret
        rw [← some_eq H]
        exact ⟨(by first | rfl | (simp [IntKind.wrap_u32]; done)), HS.out⟩
      · have H := if_no c2664 H
        have c2664b0 : decide (a2607 < (l2601.length : Int)) = false := decide_eq_false c2664
        clear c2664
        exact (none_no H).elim
    · have H := if_no c2663 H
      have c2663b0 : decide (0 ≤ a2607) = false := decide_eq_false c2663
      clear c2663
      exact (none_no H).elim
  · have H := if_no c2658 H
    have c2658b0 : t2655 = false := by simpa using c2658
    have c2658b1 : (!t2655) = true := by rw [c2658b0]; rfl
    try rw [c2658b1]
    clear c2658
    go_wp2_with fail
    go_ret
    rw [← some_eq H]
    exact ⟨(by first | rfl | (simp [IntKind.wrap_u32]; done)), HS.out⟩

set_option maxHeartbeats 30000000 in
set_option maxRecDepth 100000 in
theorem ground_Ground_Reg.calls (l2565 : List Int) (a2570 : Int) (a2571 : Int) (a2572 : Int) (a2573 : Int) (a2574 : Int) (a2575 : Int) (g2561 : Nat) (g2563 : Nat) (A2566 : Option Addr) (m2567 : Nat) (n2568 : Nat) (r : Int × Int) (w : World)  (HGl0 : Aside0 (Gl 0 #[.int .i64 0, .int .i64 0, .int .i64 0, .int .i64 0, .int .i64 0] (fps [b21 g2561 g2563 a2571 a2572 a2573 a2574, b20 g2563 A2566 m2567 n2568 a2570, r7 A2566 m2567 n2568 l2565]) w)) (HS : Aside0 (Sep (fps [b21 g2561 g2563 a2571 a2572 a2573 a2574, b20 g2563 A2566 m2567 n2568 a2570, r7 A2566 m2567 n2568 l2565]) w [b21 g2561 g2563 a2571 a2572 a2573 a2574, b20 g2563 A2566 m2567 n2568 a2570, r7 A2566 m2567 n2568 l2565] w)) (H : Aside0 (ground_Ground_Reg.f l2565 a2570 a2571 a2572 a2573 a2574 a2575 = some r)) :
    Calls Tryd.prog 81 #[.pointer (some ⟨g2561, 0, none⟩), .int .i64 a2575] w fun e w' => e = .returned (.int .i64 r.1) ∧ Sep (fps [b21 g2561 g2563 a2571 a2572 a2573 a2574, b20 g2563 A2566 m2567 n2568 a2570, r7 A2566 m2567 n2568 l2565]) w [b21 g2561 g2563 a2571 a2572 a2573 a2574, b20 g2563 A2566 m2567 n2568 r.2, r7 A2566 m2567 n2568 l2565] w' := by
  generalize (fps [b21 g2561 g2563 a2571 a2572 a2573 a2574, b20 g2563 A2566 m2567 n2568 a2570, r7 A2566 m2567 n2568 l2565]) = FF at HS HGl0 ⊢
  obtain rfl := (row_len (HS.out.at2)).symm
  unfold ground_Ground_Reg.f at H
  go_enter Tryd.func81, Tryd.ntmps81
  go_wp2_with fail
  obtain ⟨t2671, HA2672, H⟩ := bind_some H
  refine (ground_Ground_all.calls l2565 a2570 a2571 a2572 a2573 a2574 g2561 g2563 A2566 l2565.length n2568 t2671 _ ⟨HGl0.out.pass HS.out⟩ ⟨HS.out.begin⟩ HA2672).mono ?_
  rintro e_ w2673 ⟨rfl, hS⟩
  replace HS : Aside0 (Sep FF w [b21 g2561 g2563 a2571 a2572 a2573 a2574, b20 g2563 A2566 l2565.length n2568 a2570, r7 A2566 l2565.length n2568 l2565] w2673) := ⟨HS.out.call hS⟩
  clear hS
  go_wp2_with fail
  obtain ⟨t2674, HA2675, H⟩ := bind_some H
  refine (ground_reg.calls a2575 t2674 _ ⟨HGl0.out.pass (l := []) HS.out⟩ ⟨Sep.start _⟩ HA2675).mono ?_
  rintro e_ w2676 ⟨rfl, hS⟩
  replace HS : Aside0 (Sep FF w [b21 g2561 g2563 a2571 a2572 a2573 a2574, b20 g2563 A2566 l2565.length n2568 a2570, r7 A2566 l2565.length n2568 l2565] w2676) := ⟨HS.out.call hS⟩
  clear hS
  go_wp2_with fail
  replace HS : Aside0 (Sep FF w [r7 A2566 l2565.length n2568 l2565, b21 g2561 g2563 a2571 a2572 a2573 a2574, b20 g2563 A2566 l2565.length n2568 a2570] w2676) := ⟨HS.out.front 2 (by simp)⟩
  replace HS : Aside0 (Sep FF w [b20 g2563 A2566 l2565.length n2568 a2570, r7 A2566 l2565.length n2568 l2565, b21 g2561 g2563 a2571 a2572 a2573 a2574] w2676) := ⟨HS.out.front 2 (by simp)⟩
  obtain ⟨t2677, HA2678, H⟩ := bind_some H
  refine (store_Store_Get.calls l2565 a2570 t2674 g2563 A2566 l2565.length n2568 t2677 _ ⟨HGl0.out.pass HS.out⟩ ⟨HS.out.begin⟩ HA2678).mono ?_
  rintro e_ w2679 ⟨rfl, hS⟩
  replace HS : Aside0 (Sep FF w [b20 g2563 A2566 l2565.length n2568 t2677.2, r7 A2566 l2565.length n2568 l2565, b21 g2561 g2563 a2571 a2572 a2573 a2574] w2679) := ⟨HS.out.call hS⟩
  clear hS
  go_wp2_with fail
  go_ret
  rw [← some_eq H]
  exact ⟨(by first | rfl | (simp [IntKind.wrap_u32]; done)), ((((HS.out).front 1 (by simp)).front 1 (by simp)).front 2 (by simp)).keep (l := [b21 g2561 g2563 a2571 a2572 a2573 a2574, b20 g2563 A2566 l2565.length n2568 t2677.2, r7 A2566 l2565.length n2568 l2565]) (rest := [])⟩

set_option maxHeartbeats 30000000 in
set_option maxRecDepth 100000 in
theorem chain_Len.calls (l2483 : List Int) (a2488 : Int) (a2489 : Int) (a2490 : Int) (a2491 : Int) (a2492 : Int) (a2493 : Int) (g2479 : Nat) (g2481 : Nat) (A2484 : Option Addr) (m2485 : Nat) (n2486 : Nat) (r : Int × Int) (w : World)  (HGl0 : Aside0 (Gl 0 #[.int .i64 0, .int .i64 0, .int .i64 0, .int .i64 0, .int .i64 0] (fps [b21 g2479 g2481 a2489 a2490 a2491 a2492, b20 g2481 A2484 m2485 n2486 a2488, r7 A2484 m2485 n2486 l2483]) w)) (HS : Aside0 (Sep (fps [b21 g2479 g2481 a2489 a2490 a2491 a2492, b20 g2481 A2484 m2485 n2486 a2488, r7 A2484 m2485 n2486 l2483]) w [b21 g2479 g2481 a2489 a2490 a2491 a2492, b20 g2481 A2484 m2485 n2486 a2488, r7 A2484 m2485 n2486 l2483] w)) (H : Aside0 (chain_Len.f l2483 a2488 a2489 a2490 a2491 a2492 a2493 = some r)) :
    Calls Tryd.prog 105 #[.pointer (some ⟨g2479, 0, none⟩), .int .i64 a2493] w fun e w' => e = .returned (.int .i64 r.1) ∧ Sep (fps [b21 g2479 g2481 a2489 a2490 a2491 a2492, b20 g2481 A2484 m2485 n2486 a2488, r7 A2484 m2485 n2486 l2483]) w [b21 g2479 g2481 a2489 a2490 a2491 a2492, b20 g2481 A2484 m2485 n2486 r.2, r7 A2484 m2485 n2486 l2483] w' := by
  generalize (fps [b21 g2479 g2481 a2489 a2490 a2491 a2492, b20 g2481 A2484 m2485 n2486 a2488, r7 A2484 m2485 n2486 l2483]) = FF at HS HGl0 ⊢
  obtain rfl := (row_len (HS.out.at2)).symm
  unfold chain_Len.f at H
  go_enter Tryd.func105, Tryd.ntmps105
  go_wp2_with fail
  obtain ⟨t2683, HA2684, H⟩ := bind_some H
  refine (chain_of.calls l2483 a2488 a2489 a2490 a2491 a2492 a2493 g2479 g2481 A2484 l2483.length n2486 t2683 _ ⟨HGl0.out.pass HS.out⟩ ⟨HS.out.begin⟩ HA2684).mono ?_
  rintro e_ w2685 ⟨rfl, hS⟩
  replace HS : Aside0 (Sep FF w [b21 g2479 g2481 a2489 a2490 a2491 a2492, b20 g2481 A2484 l2483.length n2486 a2488, r7 A2484 l2483.length n2486 l2483] w2685) := ⟨HS.out.call hS⟩
  clear hS
  by_cases c2696 : t2683.2.2.2 = true
  · have H := if_yes c2696 H
    have c2696b0 : t2683.2.2.2 = true := c2696
    have c2696b1 : (!t2683.2.2.2) = false := by rw [c2696b0]; rfl
    try rw [c2696b1]
    clear c2696
    go_wp2_with (first | ((with_reducible refine gate_dst (N := 5) rfl ?_); refine box_on ?hg (N := 5) ?hd (cs := #[.int .i64 0, .int .i64 0, .int .i64 0]) (t := 166) ?hr ?_; (case hd => rfl); (case hg => rfl); (case hr => first | (go_simp; done) | (go_simp; rfl)); intro g2686 hg w2687 hbox hb; replace HS : Aside0 (Sep FF w [b21 g2479 g2481 a2489 a2490 a2491 a2492, b20 g2481 A2484 l2483.length n2486 a2488, r7 A2484 l2483.length n2486 l2483, b3 g2686 0 0 0] w2687) := ⟨HS.out.box hg hbox hb⟩; clear hg hbox hb; have hc2689 : w2687.cell? ⟨g2686, 0, none⟩ = some (.int .i64 0) := blk_cellv (HS.out.at3) 0 rfl; have hz2690 : w2687.frozen? ⟨g2686, 0, none⟩ = false := blk_fz (HS.out.at3) 0; have hc2691 : w2687.cell? ⟨g2686, 1, none⟩ = some (.int .i64 0) := blk_cellv (HS.out.at3) 1 rfl; have hz2692 : w2687.frozen? ⟨g2686, 1, none⟩ = false := blk_fz (HS.out.at3) 1; have hc2693 : w2687.cell? ⟨g2686, 2, none⟩ = some (.int .i64 0) := blk_cellv (HS.out.at3) 2 rfl; have hz2694 : w2687.frozen? ⟨g2686, 2, none⟩ = false := blk_fz (HS.out.at3) 2) | ((with_reducible refine gate_store (t := 166) (p := 5) rfl ?_); refine store_event (w1 := (World.setCell (World.setCell (World.setCell w2687 ⟨g2686, 0, none⟩ (.int .i64 t2683.1)) ⟨g2686, 1, none⟩ (.int .i64 t2683.2.1)) ⟨g2686, 2, none⟩ (.int .i64 t2683.2.2.1))) rfl (t := 166) (p := 5) rfl rfl ?hr ?_; (case hr => first | (go_simp; done) | (go_simp; rfl)); intro w2695 hst; clear hc2689 hz2690 hc2691 hz2692 hc2693 hz2694; replace HS : Aside0 (Sep FF w [b21 g2479 g2481 a2489 a2490 a2491 a2492, b20 g2481 A2484 l2483.length n2486 a2488, r7 A2484 l2483.length n2486 l2483, b3 g2686 t2683.1 t2683.2.1 t2683.2.2.1] w2695) := ⟨by rw [hst]; exact HS.out.setAll (l1 := [b21 g2479 g2481 a2489 a2490 a2491 a2492, b20 g2481 A2484 l2483.length n2486 a2488, r7 A2484 l2483.length n2486 l2483]) (l2 := []) [.int .i64 t2683.1, .int .i64 t2683.2.1, .int .i64 t2683.2.2.1] rfl⟩; clear hst; have hc2697 : w2695.cell? ⟨g2686, 2, none⟩ = some (.int .i64 t2683.2.2.1) := blk_cellv (HS.out.at3) 2 rfl))
    clear hc2697
    obtain ⟨t2698, HA2699, H⟩ := bind_some H
    refine (ground_Ground_Reg.calls l2483 a2488 a2489 a2490 a2491 a2492 t2683.2.2.1 g2479 g2481 A2484 l2483.length n2486 t2698 _ ⟨HGl0.out.pass HS.out⟩ ⟨HS.out.begin⟩ HA2699).mono ?_
    rintro e_ w2700 ⟨rfl, hS⟩
    replace HS : Aside0 (Sep FF w [b21 g2479 g2481 a2489 a2490 a2491 a2492, b20 g2481 A2484 l2483.length n2486 t2698.2, r7 A2484 l2483.length n2486 l2483, b3 g2686 t2683.1 t2683.2.1 t2683.2.2.1] w2700) := ⟨HS.out.call hS⟩
    clear hS
    replace HS : Aside0 (Sep FF w [b21 g2479 g2481 a2489 a2490 a2491 a2492, b20 g2481 A2484 l2483.length n2486 t2698.2, r7 A2484 l2483.length n2486 l2483] w2700) := ⟨HS.out.sub (.cons_cons _ (.cons_cons _ (.cons_cons _ (.cons _ .slnil))))⟩
    go_wp2_with fail
    go_ret
    rw [← some_eq H]
    exact ⟨(by first | rfl | (simp [IntKind.wrap_u32]; done)), HS.out⟩
  · have H := if_no c2696 H
    have c2696b0 : t2683.2.2.2 = false := by simpa using c2696
    have c2696b1 : (!t2683.2.2.2) = true := by rw [c2696b0]; rfl
    try rw [c2696b1]
    clear c2696
    go_wp2_with (first | ((with_reducible refine gate_dst (N := 5) rfl ?_); refine box_on ?hg (N := 5) ?hd (cs := #[.int .i64 0, .int .i64 0, .int .i64 0]) (t := 166) ?hr ?_; (case hd => rfl); (case hg => rfl); (case hr => first | (go_simp; done) | (go_simp; rfl)); intro g2686 hg w2687 hbox hb; replace HS : Aside0 (Sep FF w [b21 g2479 g2481 a2489 a2490 a2491 a2492, b20 g2481 A2484 l2483.length n2486 a2488, r7 A2484 l2483.length n2486 l2483, b3 g2686 0 0 0] w2687) := ⟨HS.out.box hg hbox hb⟩; clear hg hbox hb; have hc2689 : w2687.cell? ⟨g2686, 0, none⟩ = some (.int .i64 0) := blk_cellv (HS.out.at3) 0 rfl; have hz2690 : w2687.frozen? ⟨g2686, 0, none⟩ = false := blk_fz (HS.out.at3) 0; have hc2691 : w2687.cell? ⟨g2686, 1, none⟩ = some (.int .i64 0) := blk_cellv (HS.out.at3) 1 rfl; have hz2692 : w2687.frozen? ⟨g2686, 1, none⟩ = false := blk_fz (HS.out.at3) 1; have hc2693 : w2687.cell? ⟨g2686, 2, none⟩ = some (.int .i64 0) := blk_cellv (HS.out.at3) 2 rfl; have hz2694 : w2687.frozen? ⟨g2686, 2, none⟩ = false := blk_fz (HS.out.at3) 2) | ((with_reducible refine gate_store (t := 166) (p := 5) rfl ?_); refine store_event (w1 := (World.setCell (World.setCell (World.setCell w2687 ⟨g2686, 0, none⟩ (.int .i64 t2683.1)) ⟨g2686, 1, none⟩ (.int .i64 t2683.2.1)) ⟨g2686, 2, none⟩ (.int .i64 t2683.2.2.1))) rfl (t := 166) (p := 5) rfl rfl ?hr ?_; (case hr => first | (go_simp; done) | (go_simp; rfl)); intro w2695 hst; clear hc2689 hz2690 hc2691 hz2692 hc2693 hz2694; replace HS : Aside0 (Sep FF w [b21 g2479 g2481 a2489 a2490 a2491 a2492, b20 g2481 A2484 l2483.length n2486 a2488, r7 A2484 l2483.length n2486 l2483, b3 g2686 t2683.1 t2683.2.1 t2683.2.2.1] w2695) := ⟨by rw [hst]; exact HS.out.setAll (l1 := [b21 g2479 g2481 a2489 a2490 a2491 a2492, b20 g2481 A2484 l2483.length n2486 a2488, r7 A2484 l2483.length n2486 l2483]) (l2 := []) [.int .i64 t2683.1, .int .i64 t2683.2.1, .int .i64 t2683.2.2.1] rfl⟩; clear hst; replace HS : Aside0 (Sep FF w [b21 g2479 g2481 a2489 a2490 a2491 a2492, b20 g2481 A2484 l2483.length n2486 a2488, r7 A2484 l2483.length n2486 l2483] w2695) := ⟨HS.out.sub (.cons_cons _ (.cons_cons _ (.cons_cons _ (.cons _ .slnil))))⟩))
    go_ret
    rw [← some_eq H]
    exact ⟨(by first | rfl | (simp [IntKind.wrap_u32]; done)), HS.out⟩

set_option maxHeartbeats 30000000 in
set_option maxRecDepth 100000 in
theorem ground_Ground_Conf.calls (l2714 : List Int) (a2719 : Int) (a2720 : Int) (a2721 : Int) (a2722 : Int) (a2723 : Int) (g2710 : Nat) (g2712 : Nat) (A2715 : Option Addr) (m2716 : Nat) (n2717 : Nat) (r : Int × Int × Int × Int) (w : World)  (HGl0 : Aside0 (Gl 0 #[.int .i64 0, .int .i64 0, .int .i64 0, .int .i64 0, .int .i64 0] (fps [b21 g2710 g2712 a2720 a2721 a2722 a2723, b20 g2712 A2715 m2716 n2717 a2719, r7 A2715 m2716 n2717 l2714]) w)) (HS : Aside0 (Sep (fps [b21 g2710 g2712 a2720 a2721 a2722 a2723, b20 g2712 A2715 m2716 n2717 a2719, r7 A2715 m2716 n2717 l2714]) w [b21 g2710 g2712 a2720 a2721 a2722 a2723, b20 g2712 A2715 m2716 n2717 a2719, r7 A2715 m2716 n2717 l2714] w)) (H : Aside0 (ground_Ground_Conf.f l2714 a2719 a2720 a2721 a2722 a2723 = some r)) :
    Calls Tryd.prog 86 #[.pointer (some ⟨g2710, 0, none⟩)] w fun e w' => e = .returned (.agg #[.int .i64 r.1, .int .i64 r.2.1, .int .i64 r.2.2.1, .int .i64 r.2.2.2]) ∧ Sep (fps [b21 g2710 g2712 a2720 a2721 a2722 a2723, b20 g2712 A2715 m2716 n2717 a2719, r7 A2715 m2716 n2717 l2714]) w [b21 g2710 g2712 a2720 a2721 a2722 a2723, b20 g2712 A2715 m2716 n2717 a2719, r7 A2715 m2716 n2717 l2714] w' := by
  generalize (fps [b21 g2710 g2712 a2720 a2721 a2722 a2723, b20 g2712 A2715 m2716 n2717 a2719, r7 A2715 m2716 n2717 l2714]) = FF at HS HGl0 ⊢
  obtain rfl := (row_len (HS.out.at2)).symm
  unfold ground_Ground_Conf.f at H
  go_enter Tryd.func86, Tryd.ntmps86
  go_wp2_with (first | ((with_reducible refine gate_dst (N := 2) rfl ?_); refine box_on ?hg (N := 2) ?hd (cs := #[.int .i64 0, .int .i64 0, .int .i64 0, .int .i64 0]) (t := 30) ?hr ?_; (case hd => rfl); (case hg => rfl); (case hr => first | (go_simp; done) | (go_simp; rfl)); intro g2724 hg w2725 hbox hb; replace HS : Aside0 (Sep FF w [b21 g2710 g2712 a2720 a2721 a2722 a2723, b20 g2712 A2715 l2714.length n2717 a2719, r7 A2715 l2714.length n2717 l2714, b1 g2724 0 0 0 0] w2725) := ⟨HS.out.box hg hbox hb⟩; clear hg hbox hb; have hc2727 : w2725.cell? ⟨g2710, 1, none⟩ = some (.int .i64 a2720) := blk_cellv (HS.out.at0) 1 rfl; have hc2728 : w2725.cell? ⟨g2710, 2, none⟩ = some (.int .i64 a2721) := blk_cellv (HS.out.at0) 2 rfl; have hc2729 : w2725.cell? ⟨g2710, 3, none⟩ = some (.int .i64 a2722) := blk_cellv (HS.out.at0) 3 rfl; have hc2730 : w2725.cell? ⟨g2710, 4, none⟩ = some (.int .i64 a2723) := blk_cellv (HS.out.at0) 4 rfl; have hc2731 : w2725.cell? ⟨g2724, 0, none⟩ = some (.int .i64 0) := blk_cellv (HS.out.at3) 0 rfl; have hz2732 : w2725.frozen? ⟨g2724, 0, none⟩ = false := blk_fz (HS.out.at3) 0; have hc2733 : w2725.cell? ⟨g2724, 1, none⟩ = some (.int .i64 0) := blk_cellv (HS.out.at3) 1 rfl; have hz2734 : w2725.frozen? ⟨g2724, 1, none⟩ = false := blk_fz (HS.out.at3) 1; have hc2735 : w2725.cell? ⟨g2724, 2, none⟩ = some (.int .i64 0) := blk_cellv (HS.out.at3) 2 rfl; have hz2736 : w2725.frozen? ⟨g2724, 2, none⟩ = false := blk_fz (HS.out.at3) 2; have hc2737 : w2725.cell? ⟨g2724, 3, none⟩ = some (.int .i64 0) := blk_cellv (HS.out.at3) 3 rfl; have hz2738 : w2725.frozen? ⟨g2724, 3, none⟩ = false := blk_fz (HS.out.at3) 3) | ((with_reducible refine gate_store (t := 30) (p := 2) rfl ?_); refine store_event (w1 := (World.setCell (World.setCell (World.setCell (World.setCell w2725 ⟨g2724, 0, none⟩ (.int .i64 a2720)) ⟨g2724, 1, none⟩ (.int .i64 a2721)) ⟨g2724, 2, none⟩ (.int .i64 a2722)) ⟨g2724, 3, none⟩ (.int .i64 a2723))) rfl (t := 30) (p := 2) rfl rfl ?hr ?_; (case hr => first | (go_simp; done) | (go_simp; rfl)); intro w2739 hst; clear hc2727 hc2728 hc2729 hc2730 hc2731 hz2732 hc2733 hz2734 hc2735 hz2736 hc2737 hz2738; replace HS : Aside0 (Sep FF w [b21 g2710 g2712 a2720 a2721 a2722 a2723, b20 g2712 A2715 l2714.length n2717 a2719, r7 A2715 l2714.length n2717 l2714, b1 g2724 a2720 a2721 a2722 a2723] w2739) := ⟨by rw [hst]; exact HS.out.setAll (l1 := [b21 g2710 g2712 a2720 a2721 a2722 a2723, b20 g2712 A2715 l2714.length n2717 a2719, r7 A2715 l2714.length n2717 l2714]) (l2 := []) [.int .i64 a2720, .int .i64 a2721, .int .i64 a2722, .int .i64 a2723] rfl⟩; clear hst))
  have hc2740 : w2739.cell? ⟨g2724, 0, none⟩ = some (.int .i64 a2720) := blk_cellv (HS.out.at3) 0 rfl
  have hc2741 : w2739.cell? ⟨g2724, 1, none⟩ = some (.int .i64 a2721) := blk_cellv (HS.out.at3) 1 rfl
  have hc2742 : w2739.cell? ⟨g2724, 2, none⟩ = some (.int .i64 a2722) := blk_cellv (HS.out.at3) 2 rfl
  have hc2743 : w2739.cell? ⟨g2724, 3, none⟩ = some (.int .i64 a2723) := blk_cellv (HS.out.at3) 3 rfl
  refine bodyPost_ret (v := .agg #[.int .i64 a2720, .int .i64 a2721, .int .i64 a2722, .int .i64 a2723]) (by simp [results, Tryd.results86, go_sem, hc2740, hc2741, hc2742, hc2743]) rfl ?_
  rw [← some_eq H]
  exact ⟨(by first | rfl | (simp [IntKind.wrap_u32]; done)), HS.out.sub (.cons_cons _ (.cons_cons _ (.cons_cons _ (.cons _ .slnil))))⟩

set_option maxHeartbeats 30000000 in
set_option maxRecDepth 100000 in
theorem ground_Ground_word.calls (l2885 : List Int) (a2890 : Int) (a2891 : Int) (a2892 : Int) (a2893 : Int) (a2894 : Int) (a2895 : Int) (a2896 : Int) (g2881 : Nat) (g2883 : Nat) (A2886 : Option Addr) (m2887 : Nat) (n2888 : Nat) (r : Int) (w : World)  (HGl0 : Aside0 (Gl 0 #[.int .i64 0, .int .i64 0, .int .i64 0, .int .i64 0, .int .i64 0] (fps [b21 g2881 g2883 a2891 a2892 a2893 a2894, b20 g2883 A2886 m2887 n2888 a2890, r7 A2886 m2887 n2888 l2885]) w)) (HS : Aside0 (Sep (fps [b21 g2881 g2883 a2891 a2892 a2893 a2894, b20 g2883 A2886 m2887 n2888 a2890, r7 A2886 m2887 n2888 l2885]) w [b21 g2881 g2883 a2891 a2892 a2893 a2894, b20 g2883 A2886 m2887 n2888 a2890, r7 A2886 m2887 n2888 l2885] w)) (H : Aside0 (ground_Ground_word.f l2885 a2890 a2891 a2892 a2893 a2894 a2895 a2896 = some r)) :
    Calls Tryd.prog 72 #[.pointer (some ⟨g2881, 0, none⟩), .int .i64 a2895, .int .i64 a2896] w fun e w' => e = .returned (.int .i64 r) ∧ Sep (fps [b21 g2881 g2883 a2891 a2892 a2893 a2894, b20 g2883 A2886 m2887 n2888 a2890, r7 A2886 m2887 n2888 l2885]) w [b21 g2881 g2883 a2891 a2892 a2893 a2894, b20 g2883 A2886 m2887 n2888 a2890, r7 A2886 m2887 n2888 l2885] w' := by
  generalize (fps [b21 g2881 g2883 a2891 a2892 a2893 a2894, b20 g2883 A2886 m2887 n2888 a2890, r7 A2886 m2887 n2888 l2885]) = FF at HS HGl0 ⊢
  obtain rfl := (row_len (HS.out.at2)).symm
  unfold ground_Ground_word.f at H
  go_enter Tryd.func72, Tryd.ntmps72
  go_wp2_with fail
  obtain ⟨t2897, HA2898, H⟩ := bind_some H
  refine (ground_Ground_Conf.calls l2885 a2890 a2891 a2892 a2893 a2894 g2881 g2883 A2886 l2885.length n2888 t2897 _ ⟨HGl0.out.pass HS.out⟩ ⟨HS.out.begin⟩ HA2898).mono ?_
  rintro e_ w2899 ⟨rfl, hS⟩
  replace HS : Aside0 (Sep FF w [b21 g2881 g2883 a2891 a2892 a2893 a2894, b20 g2883 A2886 l2885.length n2888 a2890, r7 A2886 l2885.length n2888 l2885] w2899) := ⟨HS.out.call hS⟩
  clear hS
  go_wp2_with (first | ((with_reducible refine gate_dst (N := 7) rfl ?_); refine box_on ?hg (N := 7) ?hd (cs := #[.int .i64 0, .int .i64 0, .int .i64 0, .int .i64 0]) (t := 30) ?hr ?_; (case hd => rfl); (case hg => rfl); (case hr => first | (go_simp; done) | (go_simp; rfl)); intro g2900 hg w2901 hbox hb; replace HS : Aside0 (Sep FF w [b21 g2881 g2883 a2891 a2892 a2893 a2894, b20 g2883 A2886 l2885.length n2888 a2890, r7 A2886 l2885.length n2888 l2885, b1 g2900 0 0 0 0] w2901) := ⟨HS.out.box hg hbox hb⟩; clear hg hbox hb; have hc2903 : w2901.cell? ⟨g2900, 0, none⟩ = some (.int .i64 0) := blk_cellv (HS.out.at3) 0 rfl; have hz2904 : w2901.frozen? ⟨g2900, 0, none⟩ = false := blk_fz (HS.out.at3) 0; have hc2905 : w2901.cell? ⟨g2900, 1, none⟩ = some (.int .i64 0) := blk_cellv (HS.out.at3) 1 rfl; have hz2906 : w2901.frozen? ⟨g2900, 1, none⟩ = false := blk_fz (HS.out.at3) 1; have hc2907 : w2901.cell? ⟨g2900, 2, none⟩ = some (.int .i64 0) := blk_cellv (HS.out.at3) 2 rfl; have hz2908 : w2901.frozen? ⟨g2900, 2, none⟩ = false := blk_fz (HS.out.at3) 2; have hc2909 : w2901.cell? ⟨g2900, 3, none⟩ = some (.int .i64 0) := blk_cellv (HS.out.at3) 3 rfl; have hz2910 : w2901.frozen? ⟨g2900, 3, none⟩ = false := blk_fz (HS.out.at3) 3) | ((with_reducible refine gate_store (t := 30) (p := 7) rfl ?_); refine store_event (w1 := (World.setCell (World.setCell (World.setCell (World.setCell w2901 ⟨g2900, 0, none⟩ (.int .i64 t2897.1)) ⟨g2900, 1, none⟩ (.int .i64 t2897.2.1)) ⟨g2900, 2, none⟩ (.int .i64 t2897.2.2.1)) ⟨g2900, 3, none⟩ (.int .i64 t2897.2.2.2))) rfl (t := 30) (p := 7) rfl rfl ?hr ?_; (case hr => first | (go_simp; done) | (go_simp; rfl)); intro w2911 hst; clear hc2903 hz2904 hc2905 hz2906 hc2907 hz2908 hc2909 hz2910; replace HS : Aside0 (Sep FF w [b21 g2881 g2883 a2891 a2892 a2893 a2894, b20 g2883 A2886 l2885.length n2888 a2890, r7 A2886 l2885.length n2888 l2885, b1 g2900 t2897.1 t2897.2.1 t2897.2.2.1 t2897.2.2.2] w2911) := ⟨by rw [hst]; exact HS.out.setAll (l1 := [b21 g2881 g2883 a2891 a2892 a2893 a2894, b20 g2883 A2886 l2885.length n2888 a2890, r7 A2886 l2885.length n2888 l2885]) (l2 := []) [.int .i64 t2897.1, .int .i64 t2897.2.1, .int .i64 t2897.2.2.1, .int .i64 t2897.2.2.2] rfl⟩; clear hst; have hc2912 : w2911.cell? ⟨g2900, 0, none⟩ = some (.int .i64 t2897.1) := blk_cellv (HS.out.at3) 0 rfl))
  clear hc2912
  obtain ⟨t2913, HA2914, H⟩ := bind_some H
  refine (ground_within.calls a2895 t2897.1 0 t2913 _ ⟨HGl0.out.pass (l := []) HS.out⟩ ⟨Sep.start _⟩ HA2914).mono ?_
  rintro e_ w2915 ⟨rfl, hS⟩
  replace HS : Aside0 (Sep FF w [b21 g2881 g2883 a2891 a2892 a2893 a2894, b20 g2883 A2886 l2885.length n2888 a2890, r7 A2886 l2885.length n2888 l2885, b1 g2900 t2897.1 t2897.2.1 t2897.2.2.1 t2897.2.2.2] w2915) := ⟨HS.out.call hS⟩
  clear hS
  by_cases c2916 : t2913 = (-1)
  · have H := if_yes c2916 H
    have c2916b0 : (t2913 == (-1)) = true := beq_iff_eq.mpr c2916
    have c2916b1 : (t2913 != (-1)) = false := bne_eq_false_iff_eq.mpr c2916
    clear c2916
    replace HS : Aside0 (Sep FF w [b21 g2881 g2883 a2891 a2892 a2893 a2894, b20 g2883 A2886 l2885.length n2888 a2890, r7 A2886 l2885.length n2888 l2885] w2915) := ⟨HS.out.sub (.cons_cons _ (.cons_cons _ (.cons_cons _ (.cons _ .slnil))))⟩
    go_wp2_with fail
    go_ret
    rw [← some_eq H]
    exact ⟨(by first | rfl | (simp [IntKind.wrap_u32]; done)), HS.out⟩
  · have H := if_no c2916 H
    have c2916b0 : (t2913 == (-1)) = false := beq_eq_false_iff_ne.mpr c2916
    have c2916b1 : (t2913 != (-1)) = true := bne_iff_ne.mpr c2916
    clear c2916
    have hc2917 : w2915.cell? ⟨g2900, 1, none⟩ = some (.int .i64 t2897.2.1) := blk_cellv (HS.out.at3) 1 rfl
    have hc2918 : w2915.cell? ⟨g2900, 2, none⟩ = some (.int .i64 t2897.2.2.1) := blk_cellv (HS.out.at3) 2 rfl
    go_wp2_with fail
    clear hc2917 hc2918
    obtain ⟨t2919, HA2920, H⟩ := bind_some H
    refine (ground_within.calls a2896 t2897.2.1 (wrap64 ((wrap64 (24 + t2897.2.2.1)) + (wrap64 (a2895 * t2897.2.1)))) t2919 _ ⟨HGl0.out.pass (l := []) HS.out⟩ ⟨Sep.start _⟩ HA2920).mono ?_
    rintro e_ w2921 ⟨rfl, hS⟩
    replace HS : Aside0 (Sep FF w [b21 g2881 g2883 a2891 a2892 a2893 a2894, b20 g2883 A2886 l2885.length n2888 a2890, r7 A2886 l2885.length n2888 l2885, b1 g2900 t2897.1 t2897.2.1 t2897.2.2.1 t2897.2.2.2] w2921) := ⟨HS.out.call hS⟩
    clear hS
    replace HS : Aside0 (Sep FF w [b21 g2881 g2883 a2891 a2892 a2893 a2894, b20 g2883 A2886 l2885.length n2888 a2890, r7 A2886 l2885.length n2888 l2885] w2921) := ⟨HS.out.sub (.cons_cons _ (.cons_cons _ (.cons_cons _ (.cons _ .slnil))))⟩
    go_wp2_with fail
    go_ret
    rw [← some_eq H]
    exact ⟨(by first | rfl | (simp [IntKind.wrap_u32]; done)), HS.out⟩

set_option maxHeartbeats 30000000 in
set_option maxRecDepth 100000 in
theorem store_Store_Put.calls (l2928 : List Int) (a2933 : Int) (a2934 : Int) (a2935 : Int) (g2926 : Nat) (A2929 : Option Addr) (m2930 : Nat) (n2931 : Nat) (r : Bool × Int × List Int) (w : World)  (HGl0 : Aside0 (Gl 0 #[.int .i64 0, .int .i64 0, .int .i64 0, .int .i64 0, .int .i64 0] (fps [b20 g2926 A2929 m2930 n2931 a2933, r7 A2929 m2930 n2931 l2928]) w)) (HS : Aside0 (Sep (fps [b20 g2926 A2929 m2930 n2931 a2933, r7 A2929 m2930 n2931 l2928]) w [b20 g2926 A2929 m2930 n2931 a2933, r7 A2929 m2930 n2931 l2928] w)) (H : Aside0 (store_Store_Put.f l2928 a2933 a2934 a2935 = some r)) :
    Calls Tryd.prog 71 #[.pointer (some ⟨g2926, 0, none⟩), .int .i64 a2934, .int .u32 a2935] w fun e w' => e = .returned (.bool r.1) ∧ Sep (fps [b20 g2926 A2929 m2930 n2931 a2933, r7 A2929 m2930 n2931 l2928]) w [b20 g2926 A2929 m2930 n2931 r.2.1, r7 A2929 m2930 n2931 r.2.2] w' := by
  generalize (fps [b20 g2926 A2929 m2930 n2931 a2933, r7 A2929 m2930 n2931 l2928]) = FF at HS HGl0 ⊢
  obtain rfl := (row_len (HS.out.at1)).symm
  unfold store_Store_Put.f at H
  go_enter Tryd.func71, Tryd.ntmps71
  go_wp2_with fail
  obtain ⟨t2952, HA2953, H⟩ := bind_some H
  refine (store_Store_has.calls l2928 a2933 a2934 g2926 A2929 l2928.length n2931 t2952 _ ⟨HGl0.out.pass HS.out⟩ ⟨HS.out.begin⟩ HA2953).mono ?_
  rintro e_ w2954 ⟨rfl, hS⟩
  replace HS : Aside0 (Sep FF w [b20 g2926 A2929 l2928.length n2931 a2933, r7 A2929 l2928.length n2931 l2928] w2954) := ⟨HS.out.call hS⟩
  clear hS
  by_cases c2955 : t2952 = true
  · have H := if_yes c2955 H
    have c2955b0 : t2952 = true := c2955
    have c2955b1 : (!t2952) = false := by rw [c2955b0]; rfl
    try rw [c2955b1]
    clear c2955
    go_wp2_with fail
    obtain ⟨t2956, HA2957, H⟩ := bind_some H
    refine (atomic_Uint64_Add.calls l2928 a2933 1 g2926 A2929 l2928.length n2931 t2956 _ ⟨HGl0.out.pass HS.out⟩ ⟨HS.out.begin⟩ HA2957).mono ?_
    rintro e_ w2958 ⟨rfl, hS⟩
    replace HS : Aside0 (Sep FF w [b20 g2926 A2929 l2928.length n2931 t2956.2, r7 A2929 l2928.length n2931 l2928] w2958) := ⟨HS.out.call hS⟩
    clear hS
    by_cases c2960 : 0 ≤ a2934
    · have H := if_yes c2960 H
      have c2960b0 : decide (0 ≤ a2934) = true := decide_eq_true c2960
      have c2960p : (0 ≤ a2934) = True := eq_true c2960
      clear c2960
      by_cases c2961 : a2934 < (l2928.length : Int)
      · have H := if_yes c2961 H
        have c2961b0 : decide (a2934 < (l2928.length : Int)) = true := decide_eq_true c2961
        have c2961p : (a2934 < (l2928.length : Int)) = True := eq_true c2961
        clear c2961
        obtain ⟨y2964, HA2965, H⟩ := bind_some H
        have hc2959 : w2958.cell? ⟨g2926, 0, none⟩ = some (.slice A2929 l2928.length n2931) := blk_cellv (HS.out.at0) 0 rfl
        obtain ⟨g2962, ea⟩ := row_at (HS.out.at1) (by have := (of_decide_eq_true c2960b0); have := (of_decide_eq_true c2961b0); omega); cases ea
        have hx2966 := (row_get 0 (HS.out.at1) a2934 (of_decide_eq_true c2960b0) (of_decide_eq_true c2961b0)).1
        have hz2967 := (row_get 0 (HS.out.at1) a2934 (of_decide_eq_true c2960b0) (of_decide_eq_true c2961b0)).2
        go_wp2_with (first | ((with_reducible refine gate_store (t := 33) (p := 21) rfl ?_); refine store_event (w1 := World.setCell w2958 ⟨g2962, (a2934).toNat, none⟩ (.int .u32 a2935)) rfl (t := 33) (p := 21) rfl rfl ?hr ?_; (case hr => first | (go_simp; done) | (go_simp; rfl)); intro w2963 hst; clear hc2959 hx2966 hz2967; have hq := Sep.rowset (l1 := [b20 g2926 (some ⟨g2962, 0, none⟩) l2928.length n2931 t2956.2]) (l2 := []) HS.out a2934 a2935; rw [← hst, some_eq HA2965] at hq; replace HS : Aside0 (Sep FF w [b20 g2926 (some ⟨g2962, 0, none⟩) l2928.length n2931 t2956.2, r7 (some ⟨g2962, 0, none⟩) l2928.length n2931 y2964] w2963) := ⟨hq⟩; clear hst hq))
        go_ret
        rw [← some_eq H]
        exact ⟨(by first | rfl | (simp [IntKind.wrap_u32]; done)), HS.out⟩
      · have H := if_no c2961 H
        have c2961b0 : decide (a2934 < (l2928.length : Int)) = false := decide_eq_false c2961
        clear c2961
        exact (none_no H).elim
    · have H := if_no c2960 H
      have c2960b0 : decide (0 ≤ a2934) = false := decide_eq_false c2960
      clear c2960
      exact (none_no H).elim
  · have H := if_no c2955 H
    have c2955b0 : t2952 = false := by simpa using c2955
    have c2955b1 : (!t2952) = true := by rw [c2955b0]; rfl
    try rw [c2955b1]
    clear c2955
    go_wp2_with fail
    go_ret
    rw [← some_eq H]
    exact ⟨(by first | rfl | (simp [IntKind.wrap_u32]; done)), HS.out⟩

set_option maxHeartbeats 30000000 in
set_option maxRecDepth 100000 in
theorem ground_Ground_SetWord.calls (l2864 : List Int) (a2869 : Int) (a2870 : Int) (a2871 : Int) (a2872 : Int) (a2873 : Int) (a2874 : Int) (a2875 : Int) (a2876 : Int) (g2860 : Nat) (g2862 : Nat) (A2865 : Option Addr) (m2866 : Nat) (n2867 : Nat) (r : Bool × Int × List Int) (w : World)  (HGl0 : Aside0 (Gl 0 #[.int .i64 0, .int .i64 0, .int .i64 0, .int .i64 0, .int .i64 0] (fps [b21 g2860 g2862 a2870 a2871 a2872 a2873, b20 g2862 A2865 m2866 n2867 a2869, r7 A2865 m2866 n2867 l2864]) w)) (HS : Aside0 (Sep (fps [b21 g2860 g2862 a2870 a2871 a2872 a2873, b20 g2862 A2865 m2866 n2867 a2869, r7 A2865 m2866 n2867 l2864]) w [b21 g2860 g2862 a2870 a2871 a2872 a2873, b20 g2862 A2865 m2866 n2867 a2869, r7 A2865 m2866 n2867 l2864] w)) (H : Aside0 (ground_Ground_SetWord.f l2864 a2869 a2870 a2871 a2872 a2873 a2874 a2875 a2876 = some r)) :
    Calls Tryd.prog 17 #[.pointer (some ⟨g2860, 0, none⟩), .int .i64 a2874, .int .i64 a2875, .int .u32 a2876] w fun e w' => e = .returned (.bool r.1) ∧ Sep (fps [b21 g2860 g2862 a2870 a2871 a2872 a2873, b20 g2862 A2865 m2866 n2867 a2869, r7 A2865 m2866 n2867 l2864]) w [b21 g2860 g2862 a2870 a2871 a2872 a2873, b20 g2862 A2865 m2866 n2867 r.2.1, r7 A2865 m2866 n2867 r.2.2] w' := by
  generalize (fps [b21 g2860 g2862 a2870 a2871 a2872 a2873, b20 g2862 A2865 m2866 n2867 a2869, r7 A2865 m2866 n2867 l2864]) = FF at HS HGl0 ⊢
  obtain rfl := (row_len (HS.out.at2)).symm
  unfold ground_Ground_SetWord.f at H
  go_enter Tryd.func17, Tryd.ntmps17
  go_wp2_with fail
  obtain ⟨t2971, HA2972, H⟩ := bind_some H
  refine (ground_Ground_all.calls l2864 a2869 a2870 a2871 a2872 a2873 g2860 g2862 A2865 l2864.length n2867 t2971 _ ⟨HGl0.out.pass HS.out⟩ ⟨HS.out.begin⟩ HA2972).mono ?_
  rintro e_ w2973 ⟨rfl, hS⟩
  replace HS : Aside0 (Sep FF w [b21 g2860 g2862 a2870 a2871 a2872 a2873, b20 g2862 A2865 l2864.length n2867 a2869, r7 A2865 l2864.length n2867 l2864] w2973) := ⟨HS.out.call hS⟩
  clear hS
  go_wp2_with fail
  obtain ⟨t2974, HA2975, H⟩ := bind_some H
  refine (ground_Ground_word.calls l2864 a2869 a2870 a2871 a2872 a2873 a2874 a2875 g2860 g2862 A2865 l2864.length n2867 t2974 _ ⟨HGl0.out.pass HS.out⟩ ⟨HS.out.begin⟩ HA2975).mono ?_
  rintro e_ w2976 ⟨rfl, hS⟩
  replace HS : Aside0 (Sep FF w [b21 g2860 g2862 a2870 a2871 a2872 a2873, b20 g2862 A2865 l2864.length n2867 a2869, r7 A2865 l2864.length n2867 l2864] w2976) := ⟨HS.out.call hS⟩
  clear hS
  go_wp2_with fail
  replace HS : Aside0 (Sep FF w [r7 A2865 l2864.length n2867 l2864, b21 g2860 g2862 a2870 a2871 a2872 a2873, b20 g2862 A2865 l2864.length n2867 a2869] w2976) := ⟨HS.out.front 2 (by simp)⟩
  replace HS : Aside0 (Sep FF w [b20 g2862 A2865 l2864.length n2867 a2869, r7 A2865 l2864.length n2867 l2864, b21 g2860 g2862 a2870 a2871 a2872 a2873] w2976) := ⟨HS.out.front 2 (by simp)⟩
  obtain ⟨t2977, HA2978, H⟩ := bind_some H
  refine (store_Store_Put.calls l2864 a2869 t2974 a2876 g2862 A2865 l2864.length n2867 t2977 _ ⟨HGl0.out.pass HS.out⟩ ⟨HS.out.begin⟩ HA2978).mono ?_
  rintro e_ w2979 ⟨rfl, hS⟩
  replace HS : Aside0 (Sep FF w [b20 g2862 A2865 l2864.length n2867 t2977.2.1, r7 A2865 l2864.length n2867 t2977.2.2, b21 g2860 g2862 a2870 a2871 a2872 a2873] w2979) := ⟨HS.out.call hS⟩
  clear hS
  go_wp2_with fail
  go_ret
  rw [← some_eq H]
  exact ⟨(by first | rfl | (simp [IntKind.wrap_u32]; done)), ((((HS.out).front 1 (by simp)).front 1 (by simp)).front 2 (by simp)).keep (l := [b21 g2860 g2862 a2870 a2871 a2872 a2873, b20 g2862 A2865 l2864.length n2867 t2977.2.1, r7 A2865 l2864.length n2867 t2977.2.2]) (rest := [])⟩

set_option maxHeartbeats 30000000 in
set_option maxRecDepth 100000 in
theorem ground_Ground_set.calls (l3011 : List Int) (a3016 : Int) (a3017 : Int) (a3018 : Int) (a3019 : Int) (a3020 : Int) (a3021 : Int) (a3022 : Int) (g3007 : Nat) (g3009 : Nat) (A3012 : Option Addr) (m3013 : Nat) (n3014 : Nat) (r : Bool × Int × List Int) (w : World)  (HGl0 : Aside0 (Gl 0 #[.int .i64 0, .int .i64 0, .int .i64 0, .int .i64 0, .int .i64 0] (fps [b21 g3007 g3009 a3017 a3018 a3019 a3020, b20 g3009 A3012 m3013 n3014 a3016, r7 A3012 m3013 n3014 l3011]) w)) (HS : Aside0 (Sep (fps [b21 g3007 g3009 a3017 a3018 a3019 a3020, b20 g3009 A3012 m3013 n3014 a3016, r7 A3012 m3013 n3014 l3011]) w [b21 g3007 g3009 a3017 a3018 a3019 a3020, b20 g3009 A3012 m3013 n3014 a3016, r7 A3012 m3013 n3014 l3011] w)) (H : Aside0 (ground_Ground_set.f l3011 a3016 a3017 a3018 a3019 a3020 a3021 a3022 = some r)) :
    Calls Tryd.prog 132 #[.pointer (some ⟨g3007, 0, none⟩), .int .i64 a3021, .int .i64 a3022] w fun e w' => e = .returned (.bool r.1) ∧ Sep (fps [b21 g3007 g3009 a3017 a3018 a3019 a3020, b20 g3009 A3012 m3013 n3014 a3016, r7 A3012 m3013 n3014 l3011]) w [b21 g3007 g3009 a3017 a3018 a3019 a3020, b20 g3009 A3012 m3013 n3014 r.2.1, r7 A3012 m3013 n3014 r.2.2] w' := by
  generalize (fps [b21 g3007 g3009 a3017 a3018 a3019 a3020, b20 g3009 A3012 m3013 n3014 a3016, r7 A3012 m3013 n3014 l3011]) = FF at HS HGl0 ⊢
  obtain rfl := (row_len (HS.out.at2)).symm
  unfold ground_Ground_set.f at H
  go_enter Tryd.func132, Tryd.ntmps132
  by_cases c3031 : a3022 < 0
  · have H := if_yes c3031 H
    have c3031b0 : decide (a3022 < 0) = true := decide_eq_true c3031
    clear c3031
    go_wp2_with fail
    go_ret
    rw [← some_eq H]
    exact ⟨(by first | rfl | (simp [IntKind.wrap_u32]; done)), HS.out⟩
  · have H := if_no c3031 H
    have c3031b0 : decide (a3022 < 0) = false := decide_eq_false c3031
    clear c3031
    by_cases c3032 : a3022 > 4294967295
    · have H := if_yes c3032 H
      have c3032b0 : decide (4294967295 < a3022) = true := decide_eq_true c3032
      clear c3032
      go_wp2_with fail
      go_ret
      rw [← some_eq H]
      exact ⟨(by first | rfl | (simp [IntKind.wrap_u32]; done)), HS.out⟩
    · have H := if_no c3032 H
      have c3032b0 : decide (4294967295 < a3022) = false := decide_eq_false c3032
      clear c3032
      go_wp2_with fail
      obtain ⟨t3033, HA3034, H⟩ := bind_some H
      refine (ground_Ground_all.calls l3011 a3016 a3017 a3018 a3019 a3020 g3007 g3009 A3012 l3011.length n3014 t3033 _ ⟨HGl0.out.pass HS.out⟩ ⟨HS.out.begin⟩ HA3034).mono ?_
      rintro e_ w3035 ⟨rfl, hS⟩
      replace HS : Aside0 (Sep FF w [b21 g3007 g3009 a3017 a3018 a3019 a3020, b20 g3009 A3012 l3011.length n3014 a3016, r7 A3012 l3011.length n3014 l3011] w3035) := ⟨HS.out.call hS⟩
      clear hS
      go_wp2_with fail
      replace HS : Aside0 (Sep FF w [r7 A3012 l3011.length n3014 l3011, b21 g3007 g3009 a3017 a3018 a3019 a3020, b20 g3009 A3012 l3011.length n3014 a3016] w3035) := ⟨HS.out.front 2 (by simp)⟩
      replace HS : Aside0 (Sep FF w [b20 g3009 A3012 l3011.length n3014 a3016, r7 A3012 l3011.length n3014 l3011, b21 g3007 g3009 a3017 a3018 a3019 a3020] w3035) := ⟨HS.out.front 2 (by simp)⟩
      obtain ⟨t3036, HA3037, H⟩ := bind_some H
      refine (store_Store_Put.calls l3011 a3016 a3021 ((a3022) % 4294967296) g3009 A3012 l3011.length n3014 t3036 _ ⟨HGl0.out.pass HS.out⟩ ⟨HS.out.begin⟩ HA3037).mono ?_
      rintro e_ w3038 ⟨rfl, hS⟩
      replace HS : Aside0 (Sep FF w [b20 g3009 A3012 l3011.length n3014 t3036.2.1, r7 A3012 l3011.length n3014 t3036.2.2, b21 g3007 g3009 a3017 a3018 a3019 a3020] w3038) := ⟨HS.out.call hS⟩
      clear hS
      go_wp2_with fail
      go_ret
      rw [← some_eq H]
      exact ⟨(by first | rfl | (simp [IntKind.wrap_u32]; done)), ((((HS.out).front 1 (by simp)).front 1 (by simp)).front 2 (by simp)).keep (l := [b21 g3007 g3009 a3017 a3018 a3019 a3020, b20 g3009 A3012 l3011.length n3014 t3036.2.1, r7 A3012 l3011.length n3014 t3036.2.2]) (rest := [])⟩

set_option maxHeartbeats 30000000 in
set_option maxRecDepth 100000 in
theorem ground_Ground_SetReg.calls (l2991 : List Int) (a2996 : Int) (a2997 : Int) (a2998 : Int) (a2999 : Int) (a3000 : Int) (a3001 : Int) (a3002 : Int) (g2987 : Nat) (g2989 : Nat) (A2992 : Option Addr) (m2993 : Nat) (n2994 : Nat) (r : Bool × Int × List Int) (w : World)  (HGl0 : Aside0 (Gl 0 #[.int .i64 0, .int .i64 0, .int .i64 0, .int .i64 0, .int .i64 0] (fps [b21 g2987 g2989 a2997 a2998 a2999 a3000, b20 g2989 A2992 m2993 n2994 a2996, r7 A2992 m2993 n2994 l2991]) w)) (HS : Aside0 (Sep (fps [b21 g2987 g2989 a2997 a2998 a2999 a3000, b20 g2989 A2992 m2993 n2994 a2996, r7 A2992 m2993 n2994 l2991]) w [b21 g2987 g2989 a2997 a2998 a2999 a3000, b20 g2989 A2992 m2993 n2994 a2996, r7 A2992 m2993 n2994 l2991] w)) (H : Aside0 (ground_Ground_SetReg.f l2991 a2996 a2997 a2998 a2999 a3000 a3001 a3002 = some r)) :
    Calls Tryd.prog 83 #[.pointer (some ⟨g2987, 0, none⟩), .int .i64 a3001, .int .i64 a3002] w fun e w' => e = .returned (.bool r.1) ∧ Sep (fps [b21 g2987 g2989 a2997 a2998 a2999 a3000, b20 g2989 A2992 m2993 n2994 a2996, r7 A2992 m2993 n2994 l2991]) w [b21 g2987 g2989 a2997 a2998 a2999 a3000, b20 g2989 A2992 m2993 n2994 r.2.1, r7 A2992 m2993 n2994 r.2.2] w' := by
  generalize (fps [b21 g2987 g2989 a2997 a2998 a2999 a3000, b20 g2989 A2992 m2993 n2994 a2996, r7 A2992 m2993 n2994 l2991]) = FF at HS HGl0 ⊢
  obtain rfl := (row_len (HS.out.at2)).symm
  unfold ground_Ground_SetReg.f at H
  go_enter Tryd.func83, Tryd.ntmps83
  go_wp2_with fail
  obtain ⟨t3042, HA3043, H⟩ := bind_some H
  refine (ground_reg.calls a3001 t3042 _ ⟨HGl0.out.pass (l := []) HS.out⟩ ⟨Sep.start _⟩ HA3043).mono ?_
  rintro e_ w3044 ⟨rfl, hS⟩
  replace HS : Aside0 (Sep FF w [b21 g2987 g2989 a2997 a2998 a2999 a3000, b20 g2989 A2992 l2991.length n2994 a2996, r7 A2992 l2991.length n2994 l2991] w3044) := ⟨HS.out.call hS⟩
  clear hS
  go_wp2_with fail
  obtain ⟨t3045, HA3046, H⟩ := bind_some H
  refine (ground_Ground_set.calls l2991 a2996 a2997 a2998 a2999 a3000 t3042 a3002 g2987 g2989 A2992 l2991.length n2994 t3045 _ ⟨HGl0.out.pass HS.out⟩ ⟨HS.out.begin⟩ HA3046).mono ?_
  rintro e_ w3047 ⟨rfl, hS⟩
  replace HS : Aside0 (Sep FF w [b21 g2987 g2989 a2997 a2998 a2999 a3000, b20 g2989 A2992 l2991.length n2994 t3045.2.1, r7 A2992 l2991.length n2994 t3045.2.2] w3047) := ⟨HS.out.call hS⟩
  clear hS
  go_wp2_with fail
  go_ret
  rw [← some_eq H]
  exact ⟨(by first | rfl | (simp [IntKind.wrap_u32]; done)), HS.out⟩

set_option maxHeartbeats 30000000 in
set_option maxRecDepth 100000 in
theorem chain_Add_1.calls (a2829 : Int) (a2830 : Int) (a2831 : Int) (a2832 : Int) (a2833 : Int) (l2841 : List Int) (a2846 : Int) (a2847 : Int) (a2848 : Int) (a2849 : Int) (a2850 : Int) (a2853 : Int) (g2835 : Nat) (g2837 : Nat) (g2839 : Nat) (A2842 : Option Addr) (m2843 : Nat) (n2844 : Nat) (g2852 : Nat) (r : Int × List Int) (w : World)  (HGl0 : Aside0 (Gl 0 #[.int .i64 0, .int .i64 0, .int .i64 0, .int .i64 0, .int .i64 0] (fps [b22 g2835 g2837, b21 g2837 g2839 a2847 a2848 a2849 a2850, b20 g2839 A2842 m2843 n2844 a2846, r7 A2842 m2843 n2844 l2841, b11 g2852 a2853]) w)) (HS : Aside0 (Sep (fps [b22 g2835 g2837, b21 g2837 g2839 a2847 a2848 a2849 a2850, b20 g2839 A2842 m2843 n2844 a2846, r7 A2842 m2843 n2844 l2841, b11 g2852 a2853]) w [b22 g2835 g2837, b21 g2837 g2839 a2847 a2848 a2849 a2850, b20 g2839 A2842 m2843 n2844 a2846, r7 A2842 m2843 n2844 l2841, b11 g2852 a2853] w)) (H : Aside0 (chain_Add_1.f a2829 a2830 a2831 a2832 a2833 l2841 a2846 a2847 a2848 a2849 a2850 a2853 = some r)) :
    Calls Tryd.prog 143 #[.agg #[.int .i64 a2829, .int .i64 a2830, .int .i64 a2831], .int .i64 a2832, .int .i64 a2833, .pointer (some ⟨g2835, 0, none⟩), .pointer (some ⟨g2852, 0, none⟩)] w fun e w' => e = .returned (.tuple #[]) ∧ Sep (fps [b22 g2835 g2837, b21 g2837 g2839 a2847 a2848 a2849 a2850, b20 g2839 A2842 m2843 n2844 a2846, r7 A2842 m2843 n2844 l2841, b11 g2852 a2853]) w [b22 g2835 g2837, b21 g2837 g2839 a2847 a2848 a2849 a2850, b20 g2839 A2842 m2843 n2844 r.1, r7 A2842 m2843 n2844 r.2, b11 g2852 a2853] w' := by
  generalize (fps [b22 g2835 g2837, b21 g2837 g2839 a2847 a2848 a2849 a2850, b20 g2839 A2842 m2843 n2844 a2846, r7 A2842 m2843 n2844 l2841, b11 g2852 a2853]) = FF at HS HGl0 ⊢
  obtain rfl := (row_len (HS.out.at3)).symm
  unfold chain_Add_1.f at H
  go_enter Tryd.func143, Tryd.ntmps143
  go_wp2_with (first | ((with_reducible refine gate_dst (N := 5) rfl ?_); refine box_on ?hg (N := 5) ?hd (cs := #[.int .i64 a2829, .int .i64 a2830, .int .i64 a2831]) (t := 166) ?hr ?_; (case hd => rfl); (case hg => rfl); (case hr => first | (go_simp; done) | (go_simp; rfl)); intro g3056 hg w3057 hbox hb; replace HS : Aside0 (Sep FF w [b22 g2835 g2837, b21 g2837 g2839 a2847 a2848 a2849 a2850, b20 g2839 A2842 l2841.length n2844 a2846, r7 A2842 l2841.length n2844 l2841, b11 g2852 a2853, b3 g3056 a2829 a2830 a2831] w3057) := ⟨HS.out.box hg hbox hb⟩; clear hg hbox hb; have hc3059 : w3057.cell? ⟨g2835, 0, none⟩ = some (.pointer (some ⟨g2837, 0, none⟩)) := blk_cellv (HS.out.at0) 0 rfl; have hc3060 : w3057.cell? ⟨g2852, 0, none⟩ = some (.int .i64 a2853) := blk_cellv (HS.out.at4) 0 rfl))
  clear hc3059 hc3060
  replace HS : Aside0 (Sep FF w [r7 A2842 l2841.length n2844 l2841, b22 g2835 g2837, b21 g2837 g2839 a2847 a2848 a2849 a2850, b20 g2839 A2842 l2841.length n2844 a2846, b11 g2852 a2853, b3 g3056 a2829 a2830 a2831] w3057) := ⟨HS.out.front 3 (by simp)⟩
  replace HS : Aside0 (Sep FF w [b20 g2839 A2842 l2841.length n2844 a2846, r7 A2842 l2841.length n2844 l2841, b22 g2835 g2837, b21 g2837 g2839 a2847 a2848 a2849 a2850, b11 g2852 a2853, b3 g3056 a2829 a2830 a2831] w3057) := ⟨HS.out.front 3 (by simp)⟩
  replace HS : Aside0 (Sep FF w [b21 g2837 g2839 a2847 a2848 a2849 a2850, b20 g2839 A2842 l2841.length n2844 a2846, r7 A2842 l2841.length n2844 l2841, b22 g2835 g2837, b11 g2852 a2853, b3 g3056 a2829 a2830 a2831] w3057) := ⟨HS.out.front 3 (by simp)⟩
  obtain ⟨t3061, HA3062, H⟩ := bind_some H
  refine (ground_Ground_SetWord.calls l2841 a2846 a2847 a2848 a2849 a2850 a2853 5 0 g2837 g2839 A2842 l2841.length n2844 t3061 _ ⟨HGl0.out.pass HS.out⟩ ⟨HS.out.begin⟩ HA3062).mono ?_
  rintro e_ w3063 ⟨rfl, hS⟩
  replace HS : Aside0 (Sep FF w [b21 g2837 g2839 a2847 a2848 a2849 a2850, b20 g2839 A2842 l2841.length n2844 t3061.2.1, r7 A2842 l2841.length n2844 t3061.2.2, b22 g2835 g2837, b11 g2852 a2853, b3 g3056 a2829 a2830 a2831] w3063) := ⟨HS.out.call hS⟩
  clear hS
  by_cases c3064 : a2833 = 0
  · have H := if_yes c3064 H
    have c3064b0 : (a2833 == 0) = true := beq_iff_eq.mpr c3064
    have c3064b1 : (a2833 != 0) = false := bne_eq_false_iff_eq.mpr c3064
    clear c3064
    have hc3065 : w3063.cell? ⟨g2835, 0, none⟩ = some (.pointer (some ⟨g2837, 0, none⟩)) := blk_cellv (HS.out.at3) 0 rfl
    have hc3066 : w3063.cell? ⟨g3056, 0, none⟩ = some (.int .i64 a2829) := blk_cellv (HS.out.at5) 0 rfl
    go_wp2_with fail
    clear hc3065 hc3066
    obtain ⟨t3067, HA3068, H⟩ := bind_some H
    refine (ground_Ground_SetReg.calls t3061.2.2 t3061.2.1 a2847 a2848 a2849 a2850 a2829 a2832 g2837 g2839 A2842 l2841.length n2844 t3067 _ ⟨HGl0.out.pass HS.out⟩ ⟨HS.out.begin⟩ HA3068).mono ?_
    rintro e_ w3069 ⟨rfl, hS⟩
    replace HS : Aside0 (Sep FF w [b21 g2837 g2839 a2847 a2848 a2849 a2850, b20 g2839 A2842 l2841.length n2844 t3067.2.1, r7 A2842 l2841.length n2844 t3067.2.2, b22 g2835 g2837, b11 g2852 a2853, b3 g3056 a2829 a2830 a2831] w3069) := ⟨HS.out.call hS⟩
    clear hS
    have hc3070 : w3069.cell? ⟨g2835, 0, none⟩ = some (.pointer (some ⟨g2837, 0, none⟩)) := blk_cellv (HS.out.at3) 0 rfl
    have hc3071 : w3069.cell? ⟨g3056, 1, none⟩ = some (.int .i64 a2830) := blk_cellv (HS.out.at5) 1 rfl
    go_wp2_with fail
    clear hc3070 hc3071
    obtain ⟨t3072, HA3073, H⟩ := bind_some H
    refine (ground_Ground_SetReg.calls t3067.2.2 t3067.2.1 a2847 a2848 a2849 a2850 a2830 a2832 g2837 g2839 A2842 l2841.length n2844 t3072 _ ⟨HGl0.out.pass HS.out⟩ ⟨HS.out.begin⟩ HA3073).mono ?_
    rintro e_ w3074 ⟨rfl, hS⟩
    replace HS : Aside0 (Sep FF w [b21 g2837 g2839 a2847 a2848 a2849 a2850, b20 g2839 A2842 l2841.length n2844 t3072.2.1, r7 A2842 l2841.length n2844 t3072.2.2, b22 g2835 g2837, b11 g2852 a2853, b3 g3056 a2829 a2830 a2831] w3074) := ⟨HS.out.call hS⟩
    clear hS
    replace HS : Aside0 (Sep FF w [b21 g2837 g2839 a2847 a2848 a2849 a2850, b20 g2839 A2842 l2841.length n2844 t3072.2.1, r7 A2842 l2841.length n2844 t3072.2.2, b22 g2835 g2837, b11 g2852 a2853] w3074) := ⟨HS.out.sub (.cons_cons _ (.cons_cons _ (.cons_cons _ (.cons_cons _ (.cons_cons _ (.cons _ .slnil))))))⟩
    go_wp2_with fail
    first | go_end0 | refine bodyPost_ret (results_none rfl _ _ _) rfl ?_
    rw [← some_eq H]
    exact ⟨rfl, ((((((HS.out).front 4 (by simp)).front 3 (by simp)).front 3 (by simp)).front 3 (by simp)).front 4 (by simp)).keep (l := [b22 g2835 g2837, b21 g2837 g2839 a2847 a2848 a2849 a2850, b20 g2839 A2842 l2841.length n2844 t3072.2.1, r7 A2842 l2841.length n2844 t3072.2.2, b11 g2852 a2853]) (rest := [])⟩
  · have H := if_no c3064 H
    have c3064b0 : (a2833 == 0) = false := beq_eq_false_iff_ne.mpr c3064
    have c3064b1 : (a2833 != 0) = true := bne_iff_ne.mpr c3064
    clear c3064
    go_wp2_with fail
    refine start_ (n := 9) (S := (fun w' => w'.cell? ⟨g2835, 0, none⟩ = some (.pointer (some ⟨g2837, 0, none⟩)) ∧ w'.cell? ⟨g3056, 1, none⟩ = some (.int .i64 a2830))) (ds := []) #[false, false, false, false, false, false, false, false, false] (by kernel_rfl) rfl rfl (⟨blk_cellv ((HS.out.drew).at3) 0 rfl, blk_cellv ((HS.out.drew).at5) 1 rfl⟩) (fun hHeld => ?_)
    have HS_ := Aside0.mk HS.out.drew
    clear HS
    generalize World.drew _ = w3076 at HS_ hHeld ⊢
    have HS := HS_
    clear HS_
    refine pure_ (i := 2) (N := some 20) (v := ?_) (a' := ?_) #[false, false, true, false, false, false, false, false, false] rfl rfl (by kernel_rfl) (fun _ _ _ h => h) (Or.inl ⟨by rfl, ?_⟩) ?_ ?_
    rotate_left
    · intro w'
      go_simp
      with_reducible rfl
    rotate_left
    · simp only [Act.put, List.setIfInBounds_toArray, List.set_cons_zero, List.set_cons_succ, i64_w, i32_w]
      rfl
    refine pure_ (i := 6) (N := some 24) (v := ?_) (a' := ?_) #[false, false, true, false, false, false, true, false, false] rfl rfl (by kernel_rfl) (fun _ _ _ h => h) (Or.inl ⟨by rfl, ?_⟩) ?_ ?_
    rotate_left
    · intro w'
      go_simp
      with_reducible rfl
    rotate_left
    · simp only [Act.put, List.setIfInBounds_toArray, List.set_cons_zero, List.set_cons_succ, i64_w, i32_w]
      rfl
    refine pure_ (i := 7) (N := some 25) (v := ?_) (a' := ?_) #[false, false, true, false, false, false, true, true, false] rfl rfl (by kernel_rfl) (fun _ _ _ h => h) (Or.inl ⟨by rfl, ?_⟩) ?_ ?_
    rotate_left
    · intro w'
      go_simp
      with_reducible rfl
    rotate_left
    · simp only [Act.put, List.setIfInBounds_toArray, List.set_cons_zero, List.set_cons_succ, i64_w, i32_w]
      rfl
    refine take_ (i := 0) (N := some 18) (v := ?_) (a' := ?_) #[true, false, true, false, false, false, true, true, false] rfl rfl (by kernel_rfl) (fun _ _ _ h => h) (Or.inl ⟨by rfl, ?_⟩) hHeld ?_ ?_
    rotate_left
    · rintro w' hS'
      obtain ⟨s0, s1⟩ := hS'
      go_simp
      with_reducible rfl
    rotate_left
    · simp only [Act.put, List.setIfInBounds_toArray, List.set_cons_zero, List.set_cons_succ, i64_w, i32_w]
      rfl
    refine take_ (i := 1) (N := some 19) (v := ?_) (a' := ?_) #[true, true, true, false, false, false, true, true, false] rfl rfl (by kernel_rfl) (fun _ _ _ h => h) (Or.inl ⟨by rfl, ?_⟩) hHeld ?_ ?_
    rotate_left
    · rintro w' hS'
      obtain ⟨s0, s1⟩ := hS'
      go_simp
      with_reducible rfl
    rotate_left
    · simp only [Act.put, List.setIfInBounds_toArray, List.set_cons_zero, List.set_cons_succ, i64_w, i32_w]
      rfl
    refine take_ (i := 3) (N := some 21) (v := ?_) (a' := ?_) #[true, true, true, true, false, false, true, true, false] rfl rfl (by kernel_rfl) (fun _ _ _ h => h) (Or.inl ⟨by rfl, ?_⟩) hHeld ?_ ?_
    rotate_left
    · rintro w' hS'
      obtain ⟨s0, s1⟩ := hS'
      go_simp
      with_reducible rfl
    rotate_left
    · simp only [Act.put, List.setIfInBounds_toArray, List.set_cons_zero, List.set_cons_succ, i64_w, i32_w]
      rfl
    refine one_ (i := 4) (N := some 22) #[true, true, true, true, true, false, true, true, false] rfl rfl (by kernel_rfl) (by decide) (fun K hK => ?_)
    obtain ⟨t3077, HA3078, H⟩ := bind_some H
    refine goes_ Tryd.func81 (by kernel_rfl) rfl #[.pointer (some ⟨g2837, 0, none⟩), .int .i64 a2830] (by rfl) rfl rfl (by (try simp only [List.map_toArray, List.map_cons, List.map_nil]); first | done | rfl) ?_
    refine (ground_Ground_Reg.calls t3061.2.2 t3061.2.1 a2847 a2848 a2849 a2850 a2830 g2837 g2839 A2842 l2841.length n2844 t3077 _ ⟨HGl0.out.pass HS.out⟩ ⟨HS.out.begin⟩ HA3078).mono ?_
    rintro e_ w3079 ⟨rfl, hS⟩
    replace HS : Aside0 (Sep FF w [b21 g2837 g2839 a2847 a2848 a2849 a2850, b20 g2839 A2842 l2841.length n2844 t3077.2, r7 A2842 l2841.length n2844 t3061.2.2, b22 g2835 g2837, b11 g2852 a2853, b3 g3056 a2829 a2830 a2831] w3079) := ⟨HS.out.call hS⟩
    clear hS
    refine ⟨_, rfl, ?_⟩
    refine hK.out _ _ (⟨blk_cellv (HS.out.at3) 0 rfl, blk_cellv (HS.out.at5) 1 rfl⟩) (fun hHeld => ?_)
    clear hK K
    refine norm_ (a' := ?_) ?_ ?_
    rotate_left
    · show Act.put _ (some 22) _ = _
      simp only [Act.put, List.setIfInBounds_toArray, List.set_cons_zero, List.set_cons_succ, i64_w, i32_w]
      rfl
    refine pure_ (i := 5) (N := some 23) (v := ?_) (a' := ?_) #[true, true, true, true, true, true, true, true, false] rfl rfl (by kernel_rfl) (fun _ _ _ h => h) (Or.inl ⟨by rfl, ?_⟩) ?_ ?_
    rotate_left
    · intro w'
      go_simp
      with_reducible rfl
    rotate_left
    · simp only [Act.put, List.setIfInBounds_toArray, List.set_cons_zero, List.set_cons_succ, i64_w, i32_w]
      rfl
    refine one_ (i := 8) (N := some 26) #[true, true, true, true, true, true, true, true, true] rfl rfl (by kernel_rfl) (by decide) (fun K hK => ?_)
    obtain ⟨t3080, HA3081, H⟩ := bind_some H
    refine goes_ Tryd.func17 (by kernel_rfl) rfl #[.pointer (some ⟨g2837, 0, none⟩), .int .i64 (wrap64 (t3077.1 - 1)), .int .i64 5, .int .u32 ((a2832) % 4294967296)] (by rfl) rfl rfl (by (try simp only [List.map_toArray, List.map_cons, List.map_nil]); first | done | rfl) ?_
    refine (ground_Ground_SetWord.calls t3061.2.2 t3077.2 a2847 a2848 a2849 a2850 (wrap64 (t3077.1 - 1)) 5 ((a2832) % 4294967296) g2837 g2839 A2842 l2841.length n2844 t3080 _ ⟨HGl0.out.pass HS.out⟩ ⟨HS.out.begin⟩ HA3081).mono ?_
    rintro e_ w3082 ⟨rfl, hS⟩
    replace HS : Aside0 (Sep FF w [b21 g2837 g2839 a2847 a2848 a2849 a2850, b20 g2839 A2842 l2841.length n2844 t3080.2.1, r7 A2842 l2841.length n2844 t3080.2.2, b22 g2835 g2837, b11 g2852 a2853, b3 g3056 a2829 a2830 a2831] w3082) := ⟨HS.out.call hS⟩
    clear hS
    refine ⟨_, rfl, ?_⟩
    refine hK.out _ _ (⟨blk_cellv (HS.out.at3) 0 rfl, blk_cellv (HS.out.at5) 1 rfl⟩) (fun hHeld => ?_)
    clear hK K
    refine norm_ (a' := ?_) ?_ ?_
    rotate_left
    · show Act.put _ (some 26) _ = _
      simp only [Act.put, List.setIfInBounds_toArray, List.set_cons_zero, List.set_cons_succ, i64_w, i32_w]
      rfl
    refine done_ (by kernel_rfl) ?_
    have hc3083 : w3082.cell? ⟨g2835, 0, none⟩ = some (.pointer (some ⟨g2837, 0, none⟩)) := blk_cellv (HS.out.at3) 0 rfl
    have hc3084 : w3082.cell? ⟨g3056, 1, none⟩ = some (.int .i64 a2830) := blk_cellv (HS.out.at5) 1 rfl
    go_wp2_with fail
    clear hc3083 hc3084
    obtain ⟨t3072, HA3085, H⟩ := bind_some H
    refine (ground_Ground_SetReg.calls t3080.2.2 t3080.2.1 a2847 a2848 a2849 a2850 a2830 a2832 g2837 g2839 A2842 l2841.length n2844 t3072 _ ⟨HGl0.out.pass HS.out⟩ ⟨HS.out.begin⟩ HA3085).mono ?_
    rintro e_ w3086 ⟨rfl, hS⟩
    replace HS : Aside0 (Sep FF w [b21 g2837 g2839 a2847 a2848 a2849 a2850, b20 g2839 A2842 l2841.length n2844 t3072.2.1, r7 A2842 l2841.length n2844 t3072.2.2, b22 g2835 g2837, b11 g2852 a2853, b3 g3056 a2829 a2830 a2831] w3086) := ⟨HS.out.call hS⟩
    clear hS
    replace HS : Aside0 (Sep FF w [b21 g2837 g2839 a2847 a2848 a2849 a2850, b20 g2839 A2842 l2841.length n2844 t3072.2.1, r7 A2842 l2841.length n2844 t3072.2.2, b22 g2835 g2837, b11 g2852 a2853] w3086) := ⟨HS.out.sub (.cons_cons _ (.cons_cons _ (.cons_cons _ (.cons_cons _ (.cons_cons _ (.cons _ .slnil))))))⟩
    go_wp2_with fail
    first | go_end0 | refine bodyPost_ret (results_none rfl _ _ _) rfl ?_
    rw [← some_eq H]
    exact ⟨rfl, ((((((HS.out).front 4 (by simp)).front 3 (by simp)).front 3 (by simp)).front 3 (by simp)).front 4 (by simp)).keep (l := [b22 g2835 g2837, b21 g2837 g2839 a2847 a2848 a2849 a2850, b20 g2839 A2842 l2841.length n2844 t3072.2.1, r7 A2842 l2841.length n2844 t3072.2.2, b11 g2852 a2853]) (rest := [])⟩

set_option maxHeartbeats 30000000 in
set_option maxRecDepth 100000 in
theorem chain_put_F143.calls (l2785 : List Int) (a2790 : Int) (a2791 : Int) (a2792 : Int) (a2793 : Int) (a2794 : Int) (a2795 : Int) (a2796 : Int) (a2801 : Int) (g2781 : Nat) (g2783 : Nat) (A2786 : Option Addr) (m2787 : Nat) (n2788 : Nat) (g2798 : Nat) (g2800 : Nat) (r : Bool × Int × List Int) (w : World)  (HGl0 : Aside0 (Gl 0 #[.int .i64 0, .int .i64 0, .int .i64 0, .int .i64 0, .int .i64 0] (fps [b21 g2781 g2783 a2791 a2792 a2793 a2794, b20 g2783 A2786 m2787 n2788 a2790, r7 A2786 m2787 n2788 l2785, b22 g2798 g2781, b11 g2800 a2801]) w)) (HS : Aside0 (Sep (fps [b21 g2781 g2783 a2791 a2792 a2793 a2794, b20 g2783 A2786 m2787 n2788 a2790, r7 A2786 m2787 n2788 l2785, b22 g2798 g2781, b11 g2800 a2801]) w [b21 g2781 g2783 a2791 a2792 a2793 a2794, b20 g2783 A2786 m2787 n2788 a2790, r7 A2786 m2787 n2788 l2785, b22 g2798 g2781, b11 g2800 a2801] w)) (H : Aside0 (chain_put_F143.f l2785 a2790 a2791 a2792 a2793 a2794 a2795 a2796 a2801 = some r)) :
    Calls Tryd.prog 142 #[.pointer (some ⟨g2781, 0, none⟩), .int .i64 a2795, .int .i64 a2796, .func (.func 143) #[] #[.pointer (some ⟨g2798, 0, none⟩), .pointer (some ⟨g2800, 0, none⟩)]] w fun e w' => e = .returned (.bool r.1) ∧ Sep (fps [b21 g2781 g2783 a2791 a2792 a2793 a2794, b20 g2783 A2786 m2787 n2788 a2790, r7 A2786 m2787 n2788 l2785, b22 g2798 g2781, b11 g2800 a2801]) w [b21 g2781 g2783 a2791 a2792 a2793 a2794, b20 g2783 A2786 m2787 n2788 r.2.1, r7 A2786 m2787 n2788 r.2.2, b22 g2798 g2781, b11 g2800 a2801] w' := by
  generalize (fps [b21 g2781 g2783 a2791 a2792 a2793 a2794, b20 g2783 A2786 m2787 n2788 a2790, r7 A2786 m2787 n2788 l2785, b22 g2798 g2781, b11 g2800 a2801]) = FF at HS HGl0 ⊢
  obtain rfl := (row_len (HS.out.at2)).symm
  unfold chain_put_F143.f at H
  go_enter Tryd.func142, Tryd.ntmps142
  go_wp2_with fail
  obtain ⟨t3094, HA3095, H⟩ := bind_some H
  refine (chain_of.calls l2785 a2790 a2791 a2792 a2793 a2794 a2795 g2781 g2783 A2786 l2785.length n2788 t3094 _ ⟨HGl0.out.pass HS.out⟩ ⟨HS.out.begin⟩ HA3095).mono ?_
  rintro e_ w3096 ⟨rfl, hS⟩
  replace HS : Aside0 (Sep FF w [b21 g2781 g2783 a2791 a2792 a2793 a2794, b20 g2783 A2786 l2785.length n2788 a2790, r7 A2786 l2785.length n2788 l2785, b22 g2798 g2781, b11 g2800 a2801] w3096) := ⟨HS.out.call hS⟩
  clear hS
  by_cases c3107 : t3094.2.2.2 = true
  · have H := if_yes c3107 H
    have c3107b0 : t3094.2.2.2 = true := c3107
    have c3107b1 : (!t3094.2.2.2) = false := by rw [c3107b0]; rfl
    try rw [c3107b1]
    clear c3107
    by_cases c3108 : a2796 < 0
    · have H := if_yes c3108 H
      have c3108b0 : decide (a2796 < 0) = true := decide_eq_true c3108
      clear c3108
      go_wp2_with (first | ((with_reducible refine gate_dst (N := 9) rfl ?_); refine box_on ?hg (N := 9) ?hd (cs := #[.int .i64 0, .int .i64 0, .int .i64 0]) (t := 166) ?hr ?_; (case hd => rfl); (case hg => rfl); (case hr => first | (go_simp; done) | (go_simp; rfl)); intro g3097 hg w3098 hbox hb; replace HS : Aside0 (Sep FF w [b21 g2781 g2783 a2791 a2792 a2793 a2794, b20 g2783 A2786 l2785.length n2788 a2790, r7 A2786 l2785.length n2788 l2785, b22 g2798 g2781, b11 g2800 a2801, b3 g3097 0 0 0] w3098) := ⟨HS.out.box hg hbox hb⟩; clear hg hbox hb; have hc3100 : w3098.cell? ⟨g3097, 0, none⟩ = some (.int .i64 0) := blk_cellv (HS.out.at5) 0 rfl; have hz3101 : w3098.frozen? ⟨g3097, 0, none⟩ = false := blk_fz (HS.out.at5) 0; have hc3102 : w3098.cell? ⟨g3097, 1, none⟩ = some (.int .i64 0) := blk_cellv (HS.out.at5) 1 rfl; have hz3103 : w3098.frozen? ⟨g3097, 1, none⟩ = false := blk_fz (HS.out.at5) 1; have hc3104 : w3098.cell? ⟨g3097, 2, none⟩ = some (.int .i64 0) := blk_cellv (HS.out.at5) 2 rfl; have hz3105 : w3098.frozen? ⟨g3097, 2, none⟩ = false := blk_fz (HS.out.at5) 2) | ((with_reducible refine gate_store (t := 166) (p := 9) rfl ?_); refine store_event (w1 := (World.setCell (World.setCell (World.setCell w3098 ⟨g3097, 0, none⟩ (.int .i64 t3094.1)) ⟨g3097, 1, none⟩ (.int .i64 t3094.2.1)) ⟨g3097, 2, none⟩ (.int .i64 t3094.2.2.1))) rfl (t := 166) (p := 9) rfl rfl ?hr ?_; (case hr => first | (go_simp; done) | (go_simp; rfl)); intro w3106 hst; clear hc3100 hz3101 hc3102 hz3103 hc3104 hz3105; replace HS : Aside0 (Sep FF w [b21 g2781 g2783 a2791 a2792 a2793 a2794, b20 g2783 A2786 l2785.length n2788 a2790, r7 A2786 l2785.length n2788 l2785, b22 g2798 g2781, b11 g2800 a2801, b3 g3097 t3094.1 t3094.2.1 t3094.2.2.1] w3106) := ⟨by rw [hst]; exact HS.out.setAll (l1 := [b21 g2781 g2783 a2791 a2792 a2793 a2794, b20 g2783 A2786 l2785.length n2788 a2790, r7 A2786 l2785.length n2788 l2785, b22 g2798 g2781, b11 g2800 a2801]) (l2 := []) [.int .i64 t3094.1, .int .i64 t3094.2.1, .int .i64 t3094.2.2.1] rfl⟩; clear hst; replace HS : Aside0 (Sep FF w [b21 g2781 g2783 a2791 a2792 a2793 a2794, b20 g2783 A2786 l2785.length n2788 a2790, r7 A2786 l2785.length n2788 l2785, b22 g2798 g2781, b11 g2800 a2801] w3106) := ⟨HS.out.sub (.cons_cons _ (.cons_cons _ (.cons_cons _ (.cons_cons _ (.cons_cons _ (.cons _ .slnil))))))⟩))
      go_ret
      rw [← some_eq H]
      exact ⟨(by first | rfl | (simp [IntKind.wrap_u32]; done)), HS.out⟩
    · have H := if_no c3108 H
      have c3108b0 : decide (a2796 < 0) = false := decide_eq_false c3108
      clear c3108
      go_wp2_with (first | ((with_reducible refine gate_dst (N := 9) rfl ?_); refine box_on ?hg (N := 9) ?hd (cs := #[.int .i64 0, .int .i64 0, .int .i64 0]) (t := 166) ?hr ?_; (case hd => rfl); (case hg => rfl); (case hr => first | (go_simp; done) | (go_simp; rfl)); intro g3097 hg w3098 hbox hb; replace HS : Aside0 (Sep FF w [b21 g2781 g2783 a2791 a2792 a2793 a2794, b20 g2783 A2786 l2785.length n2788 a2790, r7 A2786 l2785.length n2788 l2785, b22 g2798 g2781, b11 g2800 a2801, b3 g3097 0 0 0] w3098) := ⟨HS.out.box hg hbox hb⟩; clear hg hbox hb; have hc3100 : w3098.cell? ⟨g3097, 0, none⟩ = some (.int .i64 0) := blk_cellv (HS.out.at5) 0 rfl; have hz3101 : w3098.frozen? ⟨g3097, 0, none⟩ = false := blk_fz (HS.out.at5) 0; have hc3102 : w3098.cell? ⟨g3097, 1, none⟩ = some (.int .i64 0) := blk_cellv (HS.out.at5) 1 rfl; have hz3103 : w3098.frozen? ⟨g3097, 1, none⟩ = false := blk_fz (HS.out.at5) 1; have hc3104 : w3098.cell? ⟨g3097, 2, none⟩ = some (.int .i64 0) := blk_cellv (HS.out.at5) 2 rfl; have hz3105 : w3098.frozen? ⟨g3097, 2, none⟩ = false := blk_fz (HS.out.at5) 2) | ((with_reducible refine gate_store (t := 166) (p := 9) rfl ?_); refine store_event (w1 := (World.setCell (World.setCell (World.setCell w3098 ⟨g3097, 0, none⟩ (.int .i64 t3094.1)) ⟨g3097, 1, none⟩ (.int .i64 t3094.2.1)) ⟨g3097, 2, none⟩ (.int .i64 t3094.2.2.1))) rfl (t := 166) (p := 9) rfl rfl ?hr ?_; (case hr => first | (go_simp; done) | (go_simp; rfl)); intro w3106 hst; clear hc3100 hz3101 hc3102 hz3103 hc3104 hz3105; replace HS : Aside0 (Sep FF w [b21 g2781 g2783 a2791 a2792 a2793 a2794, b20 g2783 A2786 l2785.length n2788 a2790, r7 A2786 l2785.length n2788 l2785, b22 g2798 g2781, b11 g2800 a2801, b3 g3097 t3094.1 t3094.2.1 t3094.2.2.1] w3106) := ⟨by rw [hst]; exact HS.out.setAll (l1 := [b21 g2781 g2783 a2791 a2792 a2793 a2794, b20 g2783 A2786 l2785.length n2788 a2790, r7 A2786 l2785.length n2788 l2785, b22 g2798 g2781, b11 g2800 a2801]) (l2 := []) [.int .i64 t3094.1, .int .i64 t3094.2.1, .int .i64 t3094.2.2.1] rfl⟩; clear hst))
      obtain ⟨t3109, HA3110, H⟩ := bind_some H
      refine (ground_Ground_Conf.calls l2785 a2790 a2791 a2792 a2793 a2794 g2781 g2783 A2786 l2785.length n2788 t3109 _ ⟨HGl0.out.pass HS.out⟩ ⟨HS.out.begin⟩ HA3110).mono ?_
      rintro e_ w3111 ⟨rfl, hS⟩
      replace HS : Aside0 (Sep FF w [b21 g2781 g2783 a2791 a2792 a2793 a2794, b20 g2783 A2786 l2785.length n2788 a2790, r7 A2786 l2785.length n2788 l2785, b22 g2798 g2781, b11 g2800 a2801, b3 g3097 t3094.1 t3094.2.1 t3094.2.2.1] w3111) := ⟨HS.out.call hS⟩
      clear hS
      by_cases c3113 : a2796 ≥ t3109.1
      · have H := if_yes c3113 H
        have c3113b0 : decide (t3109.1 ≤ a2796) = true := decide_eq_true c3113
        clear c3113
        have fl3112 : ∀ w, (Instr.field 30 (.agg #[.int .i64 t3109.1, .int .i64 t3109.2.1, .int .i64 t3109.2.2.1, .int .i64 t3109.2.2.2]) 0).run Tryd.prog w = .ok (.int .i64 t3109.1) w := fun _ => by kernel_rfl
        replace HS : Aside0 (Sep FF w [b21 g2781 g2783 a2791 a2792 a2793 a2794, b20 g2783 A2786 l2785.length n2788 a2790, r7 A2786 l2785.length n2788 l2785, b22 g2798 g2781, b11 g2800 a2801] w3111) := ⟨HS.out.sub (.cons_cons _ (.cons_cons _ (.cons_cons _ (.cons_cons _ (.cons_cons _ (.cons _ .slnil))))))⟩
        go_wp2_with fail
        clear fl3112
        go_ret
        rw [← some_eq H]
        exact ⟨(by first | rfl | (simp [IntKind.wrap_u32]; done)), HS.out⟩
      · have H := if_no c3113 H
        have c3113b0 : decide (t3109.1 ≤ a2796) = false := decide_eq_false c3113
        clear c3113
        have fl3112 : ∀ w, (Instr.field 30 (.agg #[.int .i64 t3109.1, .int .i64 t3109.2.1, .int .i64 t3109.2.2.1, .int .i64 t3109.2.2.2]) 0).run Tryd.prog w = .ok (.int .i64 t3109.1) w := fun _ => by kernel_rfl
        have hc3114 : w3111.cell? ⟨g3097, 2, none⟩ = some (.int .i64 t3094.2.2.1) := blk_cellv (HS.out.at5) 2 rfl
        go_wp2_with fail
        clear fl3112 hc3114
        obtain ⟨t3115, HA3116, H⟩ := bind_some H
        refine (ground_Ground_Reg.calls l2785 a2790 a2791 a2792 a2793 a2794 t3094.2.2.1 g2781 g2783 A2786 l2785.length n2788 t3115 _ ⟨HGl0.out.pass HS.out⟩ ⟨HS.out.begin⟩ HA3116).mono ?_
        rintro e_ w3117 ⟨rfl, hS⟩
        replace HS : Aside0 (Sep FF w [b21 g2781 g2783 a2791 a2792 a2793 a2794, b20 g2783 A2786 l2785.length n2788 t3115.2, r7 A2786 l2785.length n2788 l2785, b22 g2798 g2781, b11 g2800 a2801, b3 g3097 t3094.1 t3094.2.1 t3094.2.2.1] w3117) := ⟨HS.out.call hS⟩
        clear hS
        have hc3118 : w3117.cell? ⟨g3097, 0, none⟩ = some (.int .i64 t3094.1) := blk_cellv (HS.out.at5) 0 rfl
        have hc3119 : w3117.cell? ⟨g3097, 1, none⟩ = some (.int .i64 t3094.2.1) := blk_cellv (HS.out.at5) 1 rfl
        have hc3120 : w3117.cell? ⟨g3097, 2, none⟩ = some (.int .i64 t3094.2.2.1) := blk_cellv (HS.out.at5) 2 rfl
        go_wp2_with fail
        clear hc3118 hc3119 hc3120
        replace HS : Aside0 (Sep FF w [b11 g2800 a2801, b21 g2781 g2783 a2791 a2792 a2793 a2794, b20 g2783 A2786 l2785.length n2788 t3115.2, r7 A2786 l2785.length n2788 l2785, b22 g2798 g2781, b3 g3097 t3094.1 t3094.2.1 t3094.2.2.1] w3117) := ⟨HS.out.front 4 (by simp)⟩
        replace HS : Aside0 (Sep FF w [r7 A2786 l2785.length n2788 l2785, b11 g2800 a2801, b21 g2781 g2783 a2791 a2792 a2793 a2794, b20 g2783 A2786 l2785.length n2788 t3115.2, b22 g2798 g2781, b3 g3097 t3094.1 t3094.2.1 t3094.2.2.1] w3117) := ⟨HS.out.front 3 (by simp)⟩
        replace HS : Aside0 (Sep FF w [b20 g2783 A2786 l2785.length n2788 t3115.2, r7 A2786 l2785.length n2788 l2785, b11 g2800 a2801, b21 g2781 g2783 a2791 a2792 a2793 a2794, b22 g2798 g2781, b3 g3097 t3094.1 t3094.2.1 t3094.2.2.1] w3117) := ⟨HS.out.front 3 (by simp)⟩
        replace HS : Aside0 (Sep FF w [b21 g2781 g2783 a2791 a2792 a2793 a2794, b20 g2783 A2786 l2785.length n2788 t3115.2, r7 A2786 l2785.length n2788 l2785, b11 g2800 a2801, b22 g2798 g2781, b3 g3097 t3094.1 t3094.2.1 t3094.2.2.1] w3117) := ⟨HS.out.front 3 (by simp)⟩
        replace HS : Aside0 (Sep FF w [b22 g2798 g2781, b21 g2781 g2783 a2791 a2792 a2793 a2794, b20 g2783 A2786 l2785.length n2788 t3115.2, r7 A2786 l2785.length n2788 l2785, b11 g2800 a2801, b3 g3097 t3094.1 t3094.2.1 t3094.2.2.1] w3117) := ⟨HS.out.front 4 (by simp)⟩
        obtain ⟨t3121, HA3122, H⟩ := bind_some H
        refine (chain_Add_1.calls t3094.1 t3094.2.1 t3094.2.2.1 (wrap64 (a2796 + 1)) t3115.1 l2785 t3115.2 a2791 a2792 a2793 a2794 a2801 g2798 g2781 g2783 A2786 l2785.length n2788 g2800 t3121 _ ⟨HGl0.out.pass HS.out⟩ ⟨HS.out.begin⟩ HA3122).mono ?_
        rintro e_ w3123 ⟨rfl, hS⟩
        replace HS : Aside0 (Sep FF w [b22 g2798 g2781, b21 g2781 g2783 a2791 a2792 a2793 a2794, b20 g2783 A2786 l2785.length n2788 t3121.1, r7 A2786 l2785.length n2788 t3121.2, b11 g2800 a2801, b3 g3097 t3094.1 t3094.2.1 t3094.2.2.1] w3123) := ⟨HS.out.call hS⟩
        clear hS
        have hc3124 : w3123.cell? ⟨g3097, 2, none⟩ = some (.int .i64 t3094.2.2.1) := blk_cellv (HS.out.at5) 2 rfl
        go_wp2_with fail
        clear hc3124
        replace HS : Aside0 (Sep FF w [r7 A2786 l2785.length n2788 t3121.2, b22 g2798 g2781, b21 g2781 g2783 a2791 a2792 a2793 a2794, b20 g2783 A2786 l2785.length n2788 t3121.1, b11 g2800 a2801, b3 g3097 t3094.1 t3094.2.1 t3094.2.2.1] w3123) := ⟨HS.out.front 3 (by simp)⟩
        replace HS : Aside0 (Sep FF w [b20 g2783 A2786 l2785.length n2788 t3121.1, r7 A2786 l2785.length n2788 t3121.2, b22 g2798 g2781, b21 g2781 g2783 a2791 a2792 a2793 a2794, b11 g2800 a2801, b3 g3097 t3094.1 t3094.2.1 t3094.2.2.1] w3123) := ⟨HS.out.front 3 (by simp)⟩
        replace HS : Aside0 (Sep FF w [b21 g2781 g2783 a2791 a2792 a2793 a2794, b20 g2783 A2786 l2785.length n2788 t3121.1, r7 A2786 l2785.length n2788 t3121.2, b22 g2798 g2781, b11 g2800 a2801, b3 g3097 t3094.1 t3094.2.1 t3094.2.2.1] w3123) := ⟨HS.out.front 3 (by simp)⟩
        obtain ⟨t3125, HA3126, H⟩ := bind_some H
        refine (ground_Ground_SetReg.calls t3121.2 t3121.1 a2791 a2792 a2793 a2794 t3094.2.2.1 (wrap64 (t3115.1 + 1)) g2781 g2783 A2786 l2785.length n2788 t3125 _ ⟨HGl0.out.pass HS.out⟩ ⟨HS.out.begin⟩ HA3126).mono ?_
        rintro e_ w3127 ⟨rfl, hS⟩
        replace HS : Aside0 (Sep FF w [b21 g2781 g2783 a2791 a2792 a2793 a2794, b20 g2783 A2786 l2785.length n2788 t3125.2.1, r7 A2786 l2785.length n2788 t3125.2.2, b22 g2798 g2781, b11 g2800 a2801, b3 g3097 t3094.1 t3094.2.1 t3094.2.2.1] w3127) := ⟨HS.out.call hS⟩
        clear hS
        replace HS : Aside0 (Sep FF w [b21 g2781 g2783 a2791 a2792 a2793 a2794, b20 g2783 A2786 l2785.length n2788 t3125.2.1, r7 A2786 l2785.length n2788 t3125.2.2, b22 g2798 g2781, b11 g2800 a2801] w3127) := ⟨HS.out.sub (.cons_cons _ (.cons_cons _ (.cons_cons _ (.cons_cons _ (.cons_cons _ (.cons _ .slnil))))))⟩
        go_wp2_with fail
        go_ret
        rw [← some_eq H]
        exact ⟨(by first | rfl | (simp [IntKind.wrap_u32]; done)), HS.out⟩
  · have H := if_no c3107 H
    have c3107b0 : t3094.2.2.2 = false := by simpa using c3107
    have c3107b1 : (!t3094.2.2.2) = true := by rw [c3107b0]; rfl
    try rw [c3107b1]
    clear c3107
    go_wp2_with (first | ((with_reducible refine gate_dst (N := 9) rfl ?_); refine box_on ?hg (N := 9) ?hd (cs := #[.int .i64 0, .int .i64 0, .int .i64 0]) (t := 166) ?hr ?_; (case hd => rfl); (case hg => rfl); (case hr => first | (go_simp; done) | (go_simp; rfl)); intro g3097 hg w3098 hbox hb; replace HS : Aside0 (Sep FF w [b21 g2781 g2783 a2791 a2792 a2793 a2794, b20 g2783 A2786 l2785.length n2788 a2790, r7 A2786 l2785.length n2788 l2785, b22 g2798 g2781, b11 g2800 a2801, b3 g3097 0 0 0] w3098) := ⟨HS.out.box hg hbox hb⟩; clear hg hbox hb; have hc3100 : w3098.cell? ⟨g3097, 0, none⟩ = some (.int .i64 0) := blk_cellv (HS.out.at5) 0 rfl; have hz3101 : w3098.frozen? ⟨g3097, 0, none⟩ = false := blk_fz (HS.out.at5) 0; have hc3102 : w3098.cell? ⟨g3097, 1, none⟩ = some (.int .i64 0) := blk_cellv (HS.out.at5) 1 rfl; have hz3103 : w3098.frozen? ⟨g3097, 1, none⟩ = false := blk_fz (HS.out.at5) 1; have hc3104 : w3098.cell? ⟨g3097, 2, none⟩ = some (.int .i64 0) := blk_cellv (HS.out.at5) 2 rfl; have hz3105 : w3098.frozen? ⟨g3097, 2, none⟩ = false := blk_fz (HS.out.at5) 2) | ((with_reducible refine gate_store (t := 166) (p := 9) rfl ?_); refine store_event (w1 := (World.setCell (World.setCell (World.setCell w3098 ⟨g3097, 0, none⟩ (.int .i64 t3094.1)) ⟨g3097, 1, none⟩ (.int .i64 t3094.2.1)) ⟨g3097, 2, none⟩ (.int .i64 t3094.2.2.1))) rfl (t := 166) (p := 9) rfl rfl ?hr ?_; (case hr => first | (go_simp; done) | (go_simp; rfl)); intro w3106 hst; clear hc3100 hz3101 hc3102 hz3103 hc3104 hz3105; replace HS : Aside0 (Sep FF w [b21 g2781 g2783 a2791 a2792 a2793 a2794, b20 g2783 A2786 l2785.length n2788 a2790, r7 A2786 l2785.length n2788 l2785, b22 g2798 g2781, b11 g2800 a2801, b3 g3097 t3094.1 t3094.2.1 t3094.2.2.1] w3106) := ⟨by rw [hst]; exact HS.out.setAll (l1 := [b21 g2781 g2783 a2791 a2792 a2793 a2794, b20 g2783 A2786 l2785.length n2788 a2790, r7 A2786 l2785.length n2788 l2785, b22 g2798 g2781, b11 g2800 a2801]) (l2 := []) [.int .i64 t3094.1, .int .i64 t3094.2.1, .int .i64 t3094.2.2.1] rfl⟩; clear hst; replace HS : Aside0 (Sep FF w [b21 g2781 g2783 a2791 a2792 a2793 a2794, b20 g2783 A2786 l2785.length n2788 a2790, r7 A2786 l2785.length n2788 l2785, b22 g2798 g2781, b11 g2800 a2801] w3106) := ⟨HS.out.sub (.cons_cons _ (.cons_cons _ (.cons_cons _ (.cons_cons _ (.cons_cons _ (.cons _ .slnil))))))⟩))
    go_ret
    rw [← some_eq H]
    exact ⟨(by first | rfl | (simp [IntKind.wrap_u32]; done)), HS.out⟩

set_option maxHeartbeats 30000000 in
set_option maxRecDepth 100000 in
theorem chain_Add.calls (l2760 : List Int) (a2765 : Int) (a2766 : Int) (a2767 : Int) (a2768 : Int) (a2769 : Int) (a2770 : Int) (a2771 : Int) (g2756 : Nat) (g2758 : Nat) (A2761 : Option Addr) (m2762 : Nat) (n2763 : Nat) (r : Bool × Int × List Int) (w : World)  (HGl0 : Aside0 (Gl 0 #[.int .i64 0, .int .i64 0, .int .i64 0, .int .i64 0, .int .i64 0] (fps [b21 g2756 g2758 a2766 a2767 a2768 a2769, b20 g2758 A2761 m2762 n2763 a2765, r7 A2761 m2762 n2763 l2760]) w)) (HS : Aside0 (Sep (fps [b21 g2756 g2758 a2766 a2767 a2768 a2769, b20 g2758 A2761 m2762 n2763 a2765, r7 A2761 m2762 n2763 l2760]) w [b21 g2756 g2758 a2766 a2767 a2768 a2769, b20 g2758 A2761 m2762 n2763 a2765, r7 A2761 m2762 n2763 l2760] w)) (H : Aside0 (chain_Add.f l2760 a2765 a2766 a2767 a2768 a2769 a2770 a2771 = some r)) :
    Calls Tryd.prog 117 #[.pointer (some ⟨g2756, 0, none⟩), .int .i64 a2770, .int .i64 a2771] w fun e w' => e = .returned (.bool r.1) ∧ Sep (fps [b21 g2756 g2758 a2766 a2767 a2768 a2769, b20 g2758 A2761 m2762 n2763 a2765, r7 A2761 m2762 n2763 l2760]) w [b21 g2756 g2758 a2766 a2767 a2768 a2769, b20 g2758 A2761 m2762 n2763 r.2.1, r7 A2761 m2762 n2763 r.2.2] w' := by
  generalize (fps [b21 g2756 g2758 a2766 a2767 a2768 a2769, b20 g2758 A2761 m2762 n2763 a2765, r7 A2761 m2762 n2763 l2760]) = FF at HS HGl0 ⊢
  obtain rfl := (row_len (HS.out.at2)).symm
  unfold chain_Add.f at H
  go_enter Tryd.func117, Tryd.ntmps117
  go_wp2_with (first | ((with_reducible refine gate_dst (N := 3) rfl ?_); refine box_on ?hg (N := 3) ?hd (cs := #[.pointer (some ⟨g2756, 0, none⟩)]) (t := 25) ?hr ?_; (case hd => rfl); (case hg => rfl); (case hr => first | (go_simp; done) | (go_simp; rfl)); intro g3131 hg w3132 hbox hb; replace HS : Aside0 (Sep FF w [b21 g2756 g2758 a2766 a2767 a2768 a2769, b20 g2758 A2761 l2760.length n2763 a2765, r7 A2761 l2760.length n2763 l2760, b22 g3131 g2756] w3132) := ⟨HS.out.box hg hbox hb⟩; clear hg hbox hb) | ((with_reducible refine gate_dst (N := 5) rfl ?_); refine box_on ?hg (N := 5) ?hd (cs := #[.int .i64 a2771]) (t := 3) ?hr ?_; (case hd => rfl); (case hg => rfl); (case hr => first | (go_simp; done) | (go_simp; rfl)); intro g3134 hg w3135 hbox hb; replace HS : Aside0 (Sep FF w [b21 g2756 g2758 a2766 a2767 a2768 a2769, b20 g2758 A2761 l2760.length n2763 a2765, r7 A2761 l2760.length n2763 l2760, b22 g3131 g2756, b11 g3134 a2771] w3135) := ⟨HS.out.box hg hbox hb⟩; clear hg hbox hb; have hc3137 : w3135.cell? ⟨g3131, 0, none⟩ = some (.pointer (some ⟨g2756, 0, none⟩)) := blk_cellv (HS.out.at3) 0 rfl; have hc3138 : w3135.cell? ⟨g3134, 0, none⟩ = some (.int .i64 a2771) := blk_cellv (HS.out.at4) 0 rfl))
  clear hc3137 hc3138
  obtain ⟨t3139, HA3140, H⟩ := bind_some H
  refine (chain_put_F143.calls l2760 a2765 a2766 a2767 a2768 a2769 a2770 a2771 a2771 g2756 g2758 A2761 l2760.length n2763 g3131 g3134 t3139 _ ⟨HGl0.out.pass HS.out⟩ ⟨HS.out.begin⟩ HA3140).mono ?_
  rintro e_ w3141 ⟨rfl, hS⟩
  replace HS : Aside0 (Sep FF w [b21 g2756 g2758 a2766 a2767 a2768 a2769, b20 g2758 A2761 l2760.length n2763 t3139.2.1, r7 A2761 l2760.length n2763 t3139.2.2, b22 g3131 g2756, b11 g3134 a2771] w3141) := ⟨HS.out.call hS⟩
  clear hS
  replace HS : Aside0 (Sep FF w [b21 g2756 g2758 a2766 a2767 a2768 a2769, b20 g2758 A2761 l2760.length n2763 t3139.2.1, r7 A2761 l2760.length n2763 t3139.2.2] w3141) := ⟨HS.out.sub (.cons_cons _ (.cons_cons _ (.cons_cons _ (.cons _ (.cons _ .slnil)))))⟩
  go_wp2_with fail
  go_ret
  rw [← some_eq H]
  exact ⟨(by first | rfl | (simp [IntKind.wrap_u32]; done)), HS.out⟩

set_option maxHeartbeats 30000000 in
set_option maxRecDepth 100000 in
theorem pool_Open.calls (k : Nat) (l2468 : List Int) (a2473 : Int) (a2474 : Int) (a2475 : Int) (a2476 : Int) (a2477 : Int) (g2464 : Nat) (g2466 : Nat) (A2469 : Option Addr) (m2470 : Nat) (n2471 : Nat) (r : Bool × Int × List Int) (w : World)  (HGl0 : Aside0 (Gl 0 #[.int .i64 0, .int .i64 0, .int .i64 0, .int .i64 0, .int .i64 0] (fps [b21 g2464 g2466 a2474 a2475 a2476 a2477, b20 g2466 A2469 m2470 n2471 a2473, r7 A2469 m2470 n2471 l2468]) w)) (HS : Aside0 (Sep (fps [b21 g2464 g2466 a2474 a2475 a2476 a2477, b20 g2466 A2469 m2470 n2471 a2473, r7 A2469 m2470 n2471 l2468]) w [b21 g2464 g2466 a2474 a2475 a2476 a2477, b20 g2466 A2469 m2470 n2471 a2473, r7 A2469 m2470 n2471 l2468] w)) (H : Aside0 (pool_Open.f k l2468 a2473 a2474 a2475 a2476 a2477 = some r)) :
    Calls Tryd.prog 62 #[.pointer (some ⟨g2464, 0, none⟩)] w fun e w' => e = .returned (.bool r.1) ∧ Sep (fps [b21 g2464 g2466 a2474 a2475 a2476 a2477, b20 g2466 A2469 m2470 n2471 a2473, r7 A2469 m2470 n2471 l2468]) w [b21 g2464 g2466 a2474 a2475 a2476 a2477, b20 g2466 A2469 m2470 n2471 r.2.1, r7 A2469 m2470 n2471 r.2.2] w' := by
  generalize (fps [b21 g2464 g2466 a2474 a2475 a2476 a2477, b20 g2466 A2469 m2470 n2471 a2473, r7 A2469 m2470 n2471 l2468]) = FF at HS HGl0 ⊢
  obtain rfl := (row_len (HS.out.at2)).symm
  unfold pool_Open.f at H
  go_enter Tryd.func62, Tryd.ntmps62
  go_wp2_with fail
  obtain ⟨t3155, HA3156, H⟩ := bind_some H
  refine (chain_Len.calls l2468 a2473 a2474 a2475 a2476 a2477 0 g2464 g2466 A2469 l2468.length n2471 t3155 _ ⟨HGl0.out.pass HS.out⟩ ⟨HS.out.begin⟩ HA3156).mono ?_
  rintro e_ w3157 ⟨rfl, hS⟩
  replace HS : Aside0 (Sep FF w [b21 g2464 g2466 a2474 a2475 a2476 a2477, b20 g2466 A2469 l2468.length n2471 t3155.2, r7 A2469 l2468.length n2471 l2468] w3157) := ⟨HS.out.call hS⟩
  clear hS
  by_cases c3158 : t3155.1 > 0
  · have H := if_yes c3158 H
    have c3158b0 : decide (0 < t3155.1) = true := decide_eq_true c3158
    clear c3158
    go_wp2_with fail
    go_ret
    rw [← some_eq H]
    exact ⟨(by first | rfl | (simp [IntKind.wrap_u32]; done)), HS.out⟩
  · have H := if_no c3158 H
    have c3158b0 : decide (0 < t3155.1) = false := decide_eq_false c3158
    clear c3158
    go_wp2_with fail
    obtain ⟨t3159, HA3160, H⟩ := bind_some H
    refine (ground_Ground_Conf.calls l2468 t3155.2 a2474 a2475 a2476 a2477 g2464 g2466 A2469 l2468.length n2471 t3159 _ ⟨HGl0.out.pass HS.out⟩ ⟨HS.out.begin⟩ HA3160).mono ?_
    rintro e_ w3161 ⟨rfl, hS⟩
    replace HS : Aside0 (Sep FF w [b21 g2464 g2466 a2474 a2475 a2476 a2477, b20 g2466 A2469 l2468.length n2471 t3155.2, r7 A2469 l2468.length n2471 l2468] w3161) := ⟨HS.out.call hS⟩
    clear hS
    have fl3162 : ∀ w, (Instr.field 30 (.agg #[.int .i64 t3159.1, .int .i64 t3159.2.1, .int .i64 t3159.2.2.1, .int .i64 t3159.2.2.2]) 0).run Tryd.prog w = .ok (.int .i64 t3159.1) w := fun _ => by kernel_rfl
    go_wp2_with fail
    clear fl3162
    obtain ⟨o3173, AL3174, H⟩ := bind_some H
    go_loopg [14] k (fun kq v14 wc => ∃ (x3177 : Int) (x3178 : List Int) (x3179 : Int), v14 = .int .i64 x3177 ∧ Aside0 (pool_Open.lo0 kq a2474 a2475 a2476 a2477 t3159 x3177 x3178 x3179 = some o3173) ∧ Aside0 (Sep FF w [b21 g2464 g2466 a2474 a2475 a2476 a2477, b20 g2466 A2469 l2468.length n2471 x3179, r7 A2469 l2468.length n2471 x3178] wc))
    case atStart => exact ⟨(0), (l2468), (t3155.2), (by first | rfl | (simp [IntKind.wrap_u32]; done)), AL3174, ⟨HS.out⟩⟩
    case round =>
      clear AL3174 HS
      obtain ⟨x3177, x3178, x3179, rfl, AL3174, HS⟩ := hrel
      obtain ⟨w3175, rfl⟩ : ∃ x : World, x = wr := ⟨_, rfl⟩
      cases gk with
      | zero => exact absurd AL3174.out (by simp [pool_Open.lo0])
      | succ k3176 =>
        have AL0 := AL3174.out
        rw [pool_Open.lo0] at AL0
        clear AL3174
        have AL3174 := Aside0.mk AL0
        clear AL0
        by_cases c3180 : x3177 < t3159.1
        · have AL3174 := if_yes c3180 AL3174
          have c3180b0 : decide (x3177 < t3159.1) = true := decide_eq_true c3180
          clear c3180
          go_wp2_with fail
          obtain ⟨t3170, HA3181, AL3174⟩ := bind_some AL3174
          refine (chain_Add.calls x3178 x3179 a2474 a2475 a2476 a2477 0 x3177 g2464 g2466 A2469 l2468.length n2471 t3170 _ ⟨HGl0.out.pass HS.out⟩ ⟨HS.out.begin⟩ HA3181).mono ?_
          rintro e_ w3182 ⟨rfl, hS⟩
          replace HS : Aside0 (Sep FF w [b21 g2464 g2466 a2474 a2475 a2476 a2477, b20 g2466 A2469 l2468.length n2471 t3170.2.1, r7 A2469 l2468.length n2471 t3170.2.2] w3182) := ⟨HS.out.call hS⟩
          clear hS
          go_wp2_with fail
          go_roundg k3176
          case measure => exact Nat.lt_succ_self _
          case rel => exact ⟨(wrap64 (x3177 + 1)), (t3170.2.2), (t3170.2.1), (by first | rfl | (simp [IntKind.wrap_u32]; done)), Aside0.mk AL3174.out, ⟨HS.out⟩⟩
        · have AL3174 := if_no c3180 AL3174
          have c3180b0 : decide (x3177 < t3159.1) = false := decide_eq_false c3180
          clear c3180
          have ho := some_eq AL3174
          subst ho
          clear AL3174
          go_wp2_with fail
          go_ret
          rw [← some_eq H]
          exact ⟨(by first | rfl | (simp [IntKind.wrap_u32]; done)), HS.out⟩

set_option maxHeartbeats 30000000 in
set_option maxRecDepth 100000 in
theorem pool_Open_nil.calls  (r : Bool) (w : World)  (HGl0 : Aside0 (Gl 0 #[.int .i64 0, .int .i64 0, .int .i64 0, .int .i64 0, .int .i64 0] (fps []) w)) (HS : Aside0 (Sep (fps []) w [] w)) (H : Aside0 (pool_Open_nil.f = some r)) :
    Calls Tryd.prog 62 #[.pointer none] w fun e w' => e = .returned (.bool r) ∧ Sep (fps []) w [] w' := by
  unfold pool_Open_nil.f at H
  go_enter Tryd.func62, Tryd.ntmps62
  go_wp2_with fail
  go_ret
  rw [← some_eq H]
  exact ⟨(by first | rfl | (simp [IntKind.wrap_u32]; done)), HS.out⟩

set_option maxHeartbeats 30000000 in
set_option maxRecDepth 100000 in
theorem quitrentlaw11_opened.calls (k : Nat) (a1674 : Int) (a1675 : Int) (a1676 : Int) (a1677 : Int) (r : Bool ⊕ (Bool × Int × Int × Int × Int × Int × List Int)) (w : World)  (HGl0 : Aside0 (Gl 0 #[.int .i64 0, .int .i64 0, .int .i64 0, .int .i64 0, .int .i64 0] (fps []) w)) (HS : Aside0 (Sep (fps []) w [] w)) (H : Aside0 (quitrentlaw11_opened.f k a1674 a1675 a1676 a1677 = some r)) :
    Calls Tryd.prog 43 #[.agg #[.int .i64 a1674, .int .i64 a1675, .int .i64 a1676, .int .i64 a1677]] w fun e w' => Sum.elim (fun (r : Bool) => e = .returned (.tuple #[.pointer none, .bool r]) ∧ Sep (fps []) w [] w') (fun (r : Bool × Int × Int × Int × Int × Int × List Int) => ∃ (g3229 : Nat), e = .returned (.tuple #[.pointer (some ⟨g3229, 0, none⟩), .bool r.1]) ∧ ∃ (g3230 : Nat) (A3231 : Option Addr) (m3232 : Nat) (n3233 : Nat), Sep (fps []) w [b21 g3229 g3230 r.2.1 r.2.2.1 r.2.2.2.1 r.2.2.2.2.1, b20 g3230 A3231 m3232 n3233 r.2.2.2.2.2.1, r7 A3231 m3232 n3233 r.2.2.2.2.2.2] w') r := by
  unfold quitrentlaw11_opened.f at H
  go_enter Tryd.func43, Tryd.ntmps43
  go_wp2_with (first | ((with_reducible refine gate_dst (N := 1) rfl ?_); refine box_on ?hg (N := 1) ?hd (cs := #[.int .i64 a1674, .int .i64 a1675, .int .i64 a1676, .int .i64 a1677]) (t := 30) ?hr ?_; (case hd => rfl); (case hg => rfl); (case hr => first | (go_simp; done) | (go_simp; rfl)); intro g3187 hg w3188 hbox hb; replace HS : Aside0 (Sep (fps []) w [b1 g3187 a1674 a1675 a1676 a1677] w3188) := ⟨HS.out.box hg hbox hb⟩; clear hg hbox hb; have hc3190 : w3188.cell? ⟨g3187, 0, none⟩ = some (.int .i64 a1674) := blk_cellv (HS.out.at0) 0 rfl; have hc3191 : w3188.cell? ⟨g3187, 1, none⟩ = some (.int .i64 a1675) := blk_cellv (HS.out.at0) 1 rfl; have hc3192 : w3188.cell? ⟨g3187, 2, none⟩ = some (.int .i64 a1676) := blk_cellv (HS.out.at0) 2 rfl; have hc3193 : w3188.cell? ⟨g3187, 3, none⟩ = some (.int .i64 a1677) := blk_cellv (HS.out.at0) 3 rfl))
  clear hc3190 hc3191 hc3192 hc3193
  obtain ⟨t3194, HA3195, H⟩ := bind_some H
  rcases t3194 with t3196 | (t3197 | t3198)
  · have H := sum_l H
    refine (ground_New.calls _ a1674 a1675 a1676 a1677 (.inl t3196) _ ⟨HGl0.out.pass (l := []) HS.out⟩ ⟨Sep.start _⟩ HA3195).mono ?_
    rintro e_ w3199 ⟨rfl, hS⟩
    replace HS : Aside0 (Sep (fps []) w [b1 g3187 a1674 a1675 a1676 a1677] w3199) := ⟨HS.out.call hS⟩
    clear hS
    replace HS : Aside0 (Sep (fps []) w [] w3199) := ⟨HS.out.sub (.cons _ .slnil)⟩
    go_wp2_with fail
    go_ret2
    rw [← some_eq H]
    exact ⟨(by first | rfl | (simp [IntKind.wrap_u32]; done)), HS.out⟩
  · have H := sum_r H
    have H := sum_l H
    refine (ground_New.calls _ a1674 a1675 a1676 a1677 (.inr (.inl t3197)) _ ⟨HGl0.out.pass (l := []) HS.out⟩ ⟨Sep.start _⟩ HA3195).mono ?_
    rintro e_ w3200 ⟨g3204, rfl, g3205, A3206, m3207, n3208, hS⟩
    replace HS : Aside0 (Sep (fps []) w [b21 g3204 g3205 t3197.1 t3197.2.1 t3197.2.2.1 t3197.2.2.2.1, b20 g3205 A3206 m3207 n3208 0, r7 A3206 m3207 n3208 t3197.2.2.2.2, b1 g3187 a1674 a1675 a1676 a1677] w3200) := ⟨HS.out.call hS⟩
    clear hS
    obtain rfl := (row_len (HS.out.at2)).symm
    replace HS : Aside0 (Sep (fps []) w [b21 g3204 g3205 t3197.1 t3197.2.1 t3197.2.2.1 t3197.2.2.2.1, b20 g3205 A3206 ((t3197.2.2.2.2).length) n3208 0, r7 A3206 ((t3197.2.2.2.2).length) n3208 t3197.2.2.2.2] w3200) := ⟨HS.out.sub (.cons_cons _ (.cons_cons _ (.cons_cons _ (.cons _ .slnil))))⟩
    go_wp2_with fail
    obtain ⟨t3210, HA3211, H⟩ := bind_some H
    refine (pool_Open.calls _ t3197.2.2.2.2 0 t3197.1 t3197.2.1 t3197.2.2.1 t3197.2.2.2.1 g3204 g3205 A3206 ((t3197.2.2.2.2).length) n3208 t3210 _ ⟨HGl0.out.pass HS.out⟩ ⟨HS.out.begin⟩ HA3211).mono ?_
    rintro e_ w3212 ⟨rfl, hS⟩
    replace HS : Aside0 (Sep (fps []) w [b21 g3204 g3205 t3197.1 t3197.2.1 t3197.2.2.1 t3197.2.2.2.1, b20 g3205 A3206 ((t3197.2.2.2.2).length) n3208 t3210.2.1, r7 A3206 ((t3197.2.2.2.2).length) n3208 t3210.2.2] w3212) := ⟨HS.out.call hS⟩
    clear hS
    go_wp2_with fail
    go_ret2
    rw [← some_eq H]
    exact ⟨g3204, (by first | rfl | (simp [IntKind.wrap_u32]; done)), g3205, A3206, ((t3197.2.2.2.2).length), n3208, HS.out⟩
  · have H := sum_r H
    have H := sum_r H
    refine (ground_New.calls _ a1674 a1675 a1676 a1677 (.inr (.inr t3198)) _ ⟨HGl0.out.pass (l := []) HS.out⟩ ⟨Sep.start _⟩ HA3195).mono ?_
    rintro e_ w3222 ⟨rfl, hS⟩
    replace HS : Aside0 (Sep (fps []) w [b1 g3187 a1674 a1675 a1676 a1677] w3222) := ⟨HS.out.call hS⟩
    clear hS
    by_cases c3223 : t3198 = 0
    · have H := if_yes c3223 H
      have c3223b0 : (t3198 == 0) = true := beq_iff_eq.mpr c3223
      have c3223b1 : (t3198 != 0) = false := bne_eq_false_iff_eq.mpr c3223
      clear c3223
      replace HS : Aside0 (Sep (fps []) w [] w3222) := ⟨HS.out.sub (.cons _ .slnil)⟩
      go_wp2_with fail
      obtain ⟨t3210, HA3224, H⟩ := bind_some H
      refine (pool_Open_nil.calls t3210 _ ⟨HGl0.out.pass (l := []) HS.out⟩ ⟨Sep.start _⟩ HA3224).mono ?_
      rintro e_ w3225 ⟨rfl, hS⟩
      replace HS : Aside0 (Sep (fps []) w [] w3225) := ⟨HS.out.call hS⟩
      clear hS
      go_wp2_with fail
      go_ret2
      rw [← some_eq H]
      exact ⟨(by first | rfl | (simp [IntKind.wrap_u32]; done)), HS.out⟩
    · have H := if_no c3223 H
      have c3223b0 : (t3198 == 0) = false := beq_eq_false_iff_ne.mpr c3223
      have c3223b1 : (t3198 != 0) = true := bne_iff_ne.mpr c3223
      clear c3223
      replace HS : Aside0 (Sep (fps []) w [] w3222) := ⟨HS.out.sub (.cons _ .slnil)⟩
      go_wp2_with fail
      go_ret2
      rw [← some_eq H]
      exact ⟨(by first | rfl | (simp [IntKind.wrap_u32]; done)), HS.out⟩

set_option maxHeartbeats 30000000 in
set_option maxRecDepth 100000 in
theorem ground_Ground_SeeReg_nil.calls (a3293 : Int) (r : Int) (w : World)  (HGl0 : Aside0 (Gl 0 #[.int .i64 0, .int .i64 0, .int .i64 0, .int .i64 0, .int .i64 0] (fps []) w)) (HS : Aside0 (Sep (fps []) w [] w)) (H : Aside0 (ground_Ground_SeeReg_nil.f a3293 = some r)) :
    Calls Tryd.prog 85 #[.pointer none, .int .i64 a3293] w fun e w' => e = .returned (.int .i64 r) ∧ Sep (fps []) w [] w' := by
  unfold ground_Ground_SeeReg_nil.f at H
  go_enter Tryd.func85, Tryd.ntmps85
  go_wp2_with fail
  obtain ⟨t3294, HA3295, H⟩ := bind_some H
  refine (ground_Ground_all_nil.calls t3294 _ ⟨HGl0.out.pass (l := []) HS.out⟩ ⟨Sep.start _⟩ HA3295).mono ?_
  rintro e_ w3296 ⟨rfl, hS⟩
  replace HS : Aside0 (Sep (fps []) w [] w3296) := ⟨HS.out.call hS⟩
  clear hS
  go_wp2_with fail
  obtain ⟨t3297, HA3298, H⟩ := bind_some H
  refine (ground_reg.calls a3293 t3297 _ ⟨HGl0.out.pass (l := []) HS.out⟩ ⟨Sep.start _⟩ HA3298).mono ?_
  rintro e_ w3299 ⟨rfl, hS⟩
  replace HS : Aside0 (Sep (fps []) w [] w3299) := ⟨HS.out.call hS⟩
  clear hS
  go_wp2_with fail
  obtain ⟨t3300, HA3301, H⟩ := bind_some H
  refine (store_Store_Peek_nil.calls t3297 t3300 _ ⟨HGl0.out.pass (l := []) HS.out⟩ ⟨Sep.start _⟩ HA3301).mono ?_
  rintro e_ w3302 ⟨rfl, hS⟩
  replace HS : Aside0 (Sep (fps []) w [] w3302) := ⟨HS.out.call hS⟩
  clear hS
  go_wp2_with fail
  go_ret
  rw [← some_eq H]
  exact ⟨(by first | rfl | (simp [IntKind.wrap_u32]; done)), HS.out⟩
end Go.Proofs.YtobeonkddamnoaaDoor.C
