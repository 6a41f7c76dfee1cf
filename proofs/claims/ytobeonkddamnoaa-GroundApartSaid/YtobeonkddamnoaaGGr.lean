/- Each function of the group Gr does what its plain function says, and changes nothing that was there; proved by walking its code. No condition. -/
import Derived.Test.YtobeonkddamnoaaQw
import Derived.Test.YtobeonkddamnoaaMGr
import Derived.Test.YtobeonkddamnoaaGGr0
import Derived.Test.YtobeonkddamnoaaGGr1
namespace Go.Proofs.Ytobeonkddamnoaa.C
open Go.RowKit Go.Proofs.YtobeonkddamnoaaW.PrintWords Go.Proofs.YtobeonkddamnoaaW.PrintLast Go.Proofs.YtobeonkddamnoaaW.PrintMore Go.Proofs.Ytobeonkddamnoaa.Q Go.Proofs.Ytobeonkddamnoaa.M
set_option linter.unusedVariables false
set_option linter.unusedSimpArgs false
set_option maxHeartbeats 30000000 in
set_option maxRecDepth 100000 in
theorem quitrentlaw05_GroundApart.calls (k : Nat) (a1850 : Int) (a1851 : Int) (a1852 : Int) (a1853 : Int) (a1854 : Int) (a1855 : Int) (a1856 : Int) (a1857 : Int) (a1858 : Int) (a1859 : Int) (r : Bool) (w : World)   (HS : Aside0 (Sep (fps []) w [] w)) (H : Aside0 (quitrentlaw05_GroundApart.f k a1850 a1851 a1852 a1853 a1854 a1855 a1856 a1857 a1858 a1859 = some r)) :
    Calls Try.prog 8 #[.agg #[.int .i64 a1850, .int .i64 a1851, .int .i64 a1852, .int .i64 a1853], .agg #[.int .u8 a1854, .int .i64 a1855, .int .i64 a1856], .agg #[.int .u8 a1857, .int .i64 a1858, .int .i64 a1859]] w fun e w' => e = .returned (.bool r) ∧ Sep (fps []) w [] w' := by
  unfold quitrentlaw05_GroundApart.f at H
  go_enter Try.func8, Try.ntmps8
  go_wp2_with (first | ((with_reducible refine gate_dst (N := 3) rfl ?_); refine box_on ?hg (N := 3) ?hd (cs := #[.int .i64 a1850, .int .i64 a1851, .int .i64 a1852, .int .i64 a1853]) (t := 49) ?hr ?_; (case hd => rfl); (case hg => rfl); (case hr => first | (go_simp; done) | (go_simp; rfl)); intro g1860 hg w1861 hbox hb; replace HS : Aside0 (Sep (fps []) w [b1 g1860 a1850 a1851 a1852 a1853] w1861) := ⟨HS.out.box hg hbox hb⟩; clear hg hbox hb) | ((with_reducible refine gate_dst (N := 4) rfl ?_); refine box_on ?hg (N := 4) ?hd (cs := #[.int .u8 a1854, .int .i64 a1855, .int .i64 a1856]) (t := 57) ?hr ?_; (case hd => rfl); (case hg => rfl); (case hr => first | (go_simp; done) | (go_simp; rfl)); intro g1863 hg w1864 hbox hb; replace HS : Aside0 (Sep (fps []) w [b1 g1860 a1850 a1851 a1852 a1853, b8 g1863 a1854 a1855 a1856] w1864) := ⟨HS.out.box hg hbox hb⟩; clear hg hbox hb) | ((with_reducible refine gate_dst (N := 5) rfl ?_); refine box_on ?hg (N := 5) ?hd (cs := #[.int .u8 a1857, .int .i64 a1858, .int .i64 a1859]) (t := 57) ?hr ?_; (case hd => rfl); (case hg => rfl); (case hr => first | (go_simp; done) | (go_simp; rfl)); intro g1866 hg w1867 hbox hb; replace HS : Aside0 (Sep (fps []) w [b1 g1860 a1850 a1851 a1852 a1853, b8 g1863 a1854 a1855 a1856, b8 g1866 a1857 a1858 a1859] w1867) := ⟨HS.out.box hg hbox hb⟩; clear hg hbox hb; have hc1869 : w1867.cell? ⟨g1860, 0, none⟩ = some (.int .i64 a1850) := blk_cellv (HS.out.at0) 0 rfl; have hc1870 : w1867.cell? ⟨g1860, 1, none⟩ = some (.int .i64 a1851) := blk_cellv (HS.out.at0) 1 rfl; have hc1871 : w1867.cell? ⟨g1860, 2, none⟩ = some (.int .i64 a1852) := blk_cellv (HS.out.at0) 2 rfl; have hc1872 : w1867.cell? ⟨g1860, 3, none⟩ = some (.int .i64 a1853) := blk_cellv (HS.out.at0) 3 rfl))
  clear hc1869 hc1870 hc1871 hc1872
  obtain ⟨t1873, HA1874, H⟩ := bind_some H
  rcases t1873 with t1875 | (t1876 | t1877)
  · have H := sum_l H
    refine (ground_New.calls _ a1850 a1851 a1852 a1853 (.inl t1875) _ ⟨HS.out.begin (l := []) (rest := [b1 g1860 a1850 a1851 a1852 a1853, b8 g1863 a1854 a1855 a1856, b8 g1866 a1857 a1858 a1859])⟩ HA1874).mono ?_
    rintro e_ w1878 ⟨rfl, hS⟩
    replace HS : Aside0 (Sep (fps []) w [b1 g1860 a1850 a1851 a1852 a1853, b8 g1863 a1854 a1855 a1856, b8 g1866 a1857 a1858 a1859] w1878) := ⟨HS.out.call (l := []) (rest := [b1 g1860 a1850 a1851 a1852 a1853, b8 g1863 a1854 a1855 a1856, b8 g1866 a1857 a1858 a1859]) hS⟩
    clear hS
    have hc1879 : w1878.cell? ⟨g1860, 0, none⟩ = some (.int .i64 a1850) := blk_cellv (HS.out.at0) 0 rfl
    have hc1880 : w1878.cell? ⟨g1860, 1, none⟩ = some (.int .i64 a1851) := blk_cellv (HS.out.at0) 1 rfl
    have hc1881 : w1878.cell? ⟨g1860, 2, none⟩ = some (.int .i64 a1852) := blk_cellv (HS.out.at0) 2 rfl
    have hc1882 : w1878.cell? ⟨g1860, 3, none⟩ = some (.int .i64 a1853) := blk_cellv (HS.out.at0) 3 rfl
    go_wp2_with fail
    clear hc1879 hc1880 hc1881 hc1882
    obtain ⟨t1883, HA1884, H⟩ := bind_some H
    refine (quitrentref03_May.calls a1850 a1851 a1852 a1853 t1883 _ ⟨HS.out.begin (l := []) (rest := [b1 g1860 a1850 a1851 a1852 a1853, b8 g1863 a1854 a1855 a1856, b8 g1866 a1857 a1858 a1859])⟩ HA1884).mono ?_
    rintro e_ w1885 ⟨rfl, hS⟩
    replace HS : Aside0 (Sep (fps []) w [b1 g1860 a1850 a1851 a1852 a1853, b8 g1863 a1854 a1855 a1856, b8 g1866 a1857 a1858 a1859] w1885) := ⟨HS.out.call (l := []) (rest := [b1 g1860 a1850 a1851 a1852 a1853, b8 g1863 a1854 a1855 a1856, b8 g1866 a1857 a1858 a1859]) hS⟩
    clear hS
    by_cases c1886 : t1883 = true
    · have H := if_yes c1886 H
      have c1886b0 : t1883 = true := c1886
      have c1886b1 : (!t1883) = false := by rw [c1886b0]; rfl
      try rw [c1886b1]
      clear c1886
      replace HS : Aside0 (Sep (fps []) w [] w1885) := ⟨HS.out.sub (.cons _ (.cons _ (.cons _ .slnil)))⟩
      go_wp2_with fail
      go_ret
      rw [← some_eq H]
      exact ⟨(by first | rfl | (simp [IntKind.wrap_u32]; done)), (HS.out).keep (l := []) (rest := [])⟩
    · have H := if_no c1886 H
      have c1886b0 : t1883 = false := by simpa using c1886
      have c1886b1 : (!t1883) = true := by rw [c1886b0]; rfl
      try rw [c1886b1]
      clear c1886
      go_wp2_with fail
      obtain ⟨t1887, HA1888, H⟩ := bind_some H
      refine (quitrentlaw05_begun.calls _ t1887 _ ⟨HS.out.begin (l := []) (rest := [b1 g1860 a1850 a1851 a1852 a1853, b8 g1863 a1854 a1855 a1856, b8 g1866 a1857 a1858 a1859])⟩ HA1888).mono ?_
      rintro e_ w1889 ⟨rfl, hS⟩
      replace HS : Aside0 (Sep (fps []) w [b1 g1860 a1850 a1851 a1852 a1853, b8 g1863 a1854 a1855 a1856, b8 g1866 a1857 a1858 a1859] w1889) := ⟨HS.out.call (l := []) (rest := [b1 g1860 a1850 a1851 a1852 a1853, b8 g1863 a1854 a1855 a1856, b8 g1866 a1857 a1858 a1859]) hS⟩
      clear hS
      replace HS : Aside0 (Sep (fps []) w [] w1889) := ⟨HS.out.sub (.cons _ (.cons _ (.cons _ .slnil)))⟩
      go_wp2_with fail
      go_ret
      rw [← some_eq H]
      exact ⟨(by first | rfl | (simp [IntKind.wrap_u32]; done)), (HS.out).keep (l := []) (rest := [])⟩
  · have H := sum_r H
    have H := sum_l H
    refine (ground_New.calls _ a1850 a1851 a1852 a1853 (.inr (.inl t1876)) _ ⟨HS.out.begin (l := []) (rest := [b1 g1860 a1850 a1851 a1852 a1853, b8 g1863 a1854 a1855 a1856, b8 g1866 a1857 a1858 a1859])⟩ HA1874).mono ?_
    rintro e_ w1890 ⟨g1894, rfl, g1895, A1896, m1897, n1898, hS⟩
    replace HS : Aside0 (Sep (fps []) w [b7 g1894 g1895 t1876.1 t1876.2.1 t1876.2.2.1 t1876.2.2.2.1, b6 g1895 A1896 m1897 n1898 0, r2 A1896 m1897 n1898 t1876.2.2.2.2, b1 g1860 a1850 a1851 a1852 a1853, b8 g1863 a1854 a1855 a1856, b8 g1866 a1857 a1858 a1859] w1890) := ⟨HS.out.call (l := []) (rest := [b1 g1860 a1850 a1851 a1852 a1853, b8 g1863 a1854 a1855 a1856, b8 g1866 a1857 a1858 a1859]) hS⟩
    clear hS
    obtain rfl := (row_len (HS.out.at2)).symm
    have hc1900 : w1890.cell? ⟨g1860, 0, none⟩ = some (.int .i64 a1850) := blk_cellv (HS.out.at3) 0 rfl
    have hc1901 : w1890.cell? ⟨g1860, 1, none⟩ = some (.int .i64 a1851) := blk_cellv (HS.out.at3) 1 rfl
    have hc1902 : w1890.cell? ⟨g1860, 2, none⟩ = some (.int .i64 a1852) := blk_cellv (HS.out.at3) 2 rfl
    have hc1903 : w1890.cell? ⟨g1860, 3, none⟩ = some (.int .i64 a1853) := blk_cellv (HS.out.at3) 3 rfl
    go_wp2_with fail
    clear hc1900 hc1901 hc1902 hc1903
    obtain ⟨t1904, HA1905, H⟩ := bind_some H
    refine (quitrentref05_Little.calls a1850 a1851 a1852 a1853 t1904 _ ⟨HS.out.begin (l := []) (rest := [b7 g1894 g1895 t1876.1 t1876.2.1 t1876.2.2.1 t1876.2.2.2.1, b6 g1895 A1896 ((t1876.2.2.2.2).length) n1898 0, r2 A1896 ((t1876.2.2.2.2).length) n1898 t1876.2.2.2.2, b1 g1860 a1850 a1851 a1852 a1853, b8 g1863 a1854 a1855 a1856, b8 g1866 a1857 a1858 a1859])⟩ HA1905).mono ?_
    rintro e_ w1906 ⟨rfl, hS⟩
    replace HS : Aside0 (Sep (fps []) w [b7 g1894 g1895 t1876.1 t1876.2.1 t1876.2.2.1 t1876.2.2.2.1, b6 g1895 A1896 ((t1876.2.2.2.2).length) n1898 0, r2 A1896 ((t1876.2.2.2.2).length) n1898 t1876.2.2.2.2, b1 g1860 a1850 a1851 a1852 a1853, b8 g1863 a1854 a1855 a1856, b8 g1866 a1857 a1858 a1859] w1906) := ⟨HS.out.call (l := []) (rest := [b7 g1894 g1895 t1876.1 t1876.2.1 t1876.2.2.1 t1876.2.2.2.1, b6 g1895 A1896 ((t1876.2.2.2.2).length) n1898 0, r2 A1896 ((t1876.2.2.2.2).length) n1898 t1876.2.2.2.2, b1 g1860 a1850 a1851 a1852 a1853, b8 g1863 a1854 a1855 a1856, b8 g1866 a1857 a1858 a1859]) hS⟩
    clear hS
    by_cases c1907 : t1904 = true
    · have H := if_yes c1907 H
      have c1907b0 : t1904 = true := c1907
      have c1907b1 : (!t1904) = false := by rw [c1907b0]; rfl
      try rw [c1907b1]
      clear c1907
      by_cases c1909 : a1854 > 2
      · have H := if_yes c1909 H
        have c1909b0 : decide (2 < a1854) = true := decide_eq_true c1909
        clear c1909
        have hc1908 : w1906.cell? ⟨g1863, 0, none⟩ = some (.int .u8 a1854) := blk_cellv (HS.out.at4) 0 rfl
        replace HS : Aside0 (Sep (fps []) w [b7 g1894 g1895 t1876.1 t1876.2.1 t1876.2.2.1 t1876.2.2.2.1, b6 g1895 A1896 ((t1876.2.2.2.2).length) n1898 0, r2 A1896 ((t1876.2.2.2.2).length) n1898 t1876.2.2.2.2, b8 g1863 a1854 a1855 a1856, b8 g1866 a1857 a1858 a1859] w1906) := ⟨HS.out.sub (.cons_cons _ (.cons_cons _ (.cons_cons _ (.cons _ (.cons_cons _ (.cons_cons _ .slnil))))))⟩
        go_wp2_with fail
        clear hc1908
        obtain ⟨t1910, HA1911, H⟩ := bind_some H
        refine (quitrentlaw05_begun.calls _ t1910 _ ⟨HS.out.begin (l := []) (rest := [b7 g1894 g1895 t1876.1 t1876.2.1 t1876.2.2.1 t1876.2.2.2.1, b6 g1895 A1896 ((t1876.2.2.2.2).length) n1898 0, r2 A1896 ((t1876.2.2.2.2).length) n1898 t1876.2.2.2.2, b8 g1863 a1854 a1855 a1856, b8 g1866 a1857 a1858 a1859])⟩ HA1911).mono ?_
        rintro e_ w1912 ⟨rfl, hS⟩
        replace HS : Aside0 (Sep (fps []) w [b7 g1894 g1895 t1876.1 t1876.2.1 t1876.2.2.1 t1876.2.2.2.1, b6 g1895 A1896 ((t1876.2.2.2.2).length) n1898 0, r2 A1896 ((t1876.2.2.2.2).length) n1898 t1876.2.2.2.2, b8 g1863 a1854 a1855 a1856, b8 g1866 a1857 a1858 a1859] w1912) := ⟨HS.out.call (l := []) (rest := [b7 g1894 g1895 t1876.1 t1876.2.1 t1876.2.2.1 t1876.2.2.2.1, b6 g1895 A1896 ((t1876.2.2.2.2).length) n1898 0, r2 A1896 ((t1876.2.2.2.2).length) n1898 t1876.2.2.2.2, b8 g1863 a1854 a1855 a1856, b8 g1866 a1857 a1858 a1859]) hS⟩
        clear hS
        replace HS : Aside0 (Sep (fps []) w [] w1912) := ⟨HS.out.sub (.cons _ (.cons _ (.cons _ (.cons _ (.cons _ .slnil)))))⟩
        go_wp2_with fail
        go_ret
        rw [← some_eq H]
        exact ⟨(by first | rfl | (simp [IntKind.wrap_u32]; done)), (HS.out).keep (l := []) (rest := [])⟩
      · have H := if_no c1909 H
        have c1909b0 : decide (2 < a1854) = false := decide_eq_false c1909
        clear c1909
        by_cases c1914 : a1857 > 2
        · have H := if_yes c1914 H
          have c1914b0 : decide (2 < a1857) = true := decide_eq_true c1914
          clear c1914
          have hc1908 : w1906.cell? ⟨g1863, 0, none⟩ = some (.int .u8 a1854) := blk_cellv (HS.out.at4) 0 rfl
          have hc1913 : w1906.cell? ⟨g1866, 0, none⟩ = some (.int .u8 a1857) := blk_cellv (HS.out.at5) 0 rfl
          replace HS : Aside0 (Sep (fps []) w [b7 g1894 g1895 t1876.1 t1876.2.1 t1876.2.2.1 t1876.2.2.2.1, b6 g1895 A1896 ((t1876.2.2.2.2).length) n1898 0, r2 A1896 ((t1876.2.2.2.2).length) n1898 t1876.2.2.2.2, b8 g1863 a1854 a1855 a1856, b8 g1866 a1857 a1858 a1859] w1906) := ⟨HS.out.sub (.cons_cons _ (.cons_cons _ (.cons_cons _ (.cons _ (.cons_cons _ (.cons_cons _ .slnil))))))⟩
          go_wp2_with fail
          clear hc1908 hc1913
          obtain ⟨t1910, HA1915, H⟩ := bind_some H
          refine (quitrentlaw05_begun.calls _ t1910 _ ⟨HS.out.begin (l := []) (rest := [b7 g1894 g1895 t1876.1 t1876.2.1 t1876.2.2.1 t1876.2.2.2.1, b6 g1895 A1896 ((t1876.2.2.2.2).length) n1898 0, r2 A1896 ((t1876.2.2.2.2).length) n1898 t1876.2.2.2.2, b8 g1863 a1854 a1855 a1856, b8 g1866 a1857 a1858 a1859])⟩ HA1915).mono ?_
          rintro e_ w1916 ⟨rfl, hS⟩
          replace HS : Aside0 (Sep (fps []) w [b7 g1894 g1895 t1876.1 t1876.2.1 t1876.2.2.1 t1876.2.2.2.1, b6 g1895 A1896 ((t1876.2.2.2.2).length) n1898 0, r2 A1896 ((t1876.2.2.2.2).length) n1898 t1876.2.2.2.2, b8 g1863 a1854 a1855 a1856, b8 g1866 a1857 a1858 a1859] w1916) := ⟨HS.out.call (l := []) (rest := [b7 g1894 g1895 t1876.1 t1876.2.1 t1876.2.2.1 t1876.2.2.2.1, b6 g1895 A1896 ((t1876.2.2.2.2).length) n1898 0, r2 A1896 ((t1876.2.2.2.2).length) n1898 t1876.2.2.2.2, b8 g1863 a1854 a1855 a1856, b8 g1866 a1857 a1858 a1859]) hS⟩
          clear hS
          replace HS : Aside0 (Sep (fps []) w [] w1916) := ⟨HS.out.sub (.cons _ (.cons _ (.cons _ (.cons _ (.cons _ .slnil)))))⟩
          go_wp2_with fail
          go_ret
          rw [← some_eq H]
          exact ⟨(by first | rfl | (simp [IntKind.wrap_u32]; done)), (HS.out).keep (l := []) (rest := [])⟩
        · have H := if_no c1914 H
          have c1914b0 : decide (2 < a1857) = false := decide_eq_false c1914
          clear c1914
          by_cases c1917 : a1854 < 2
          · have H := if_yes c1917 H
            have c1917b0 : decide (a1854 < 2) = true := decide_eq_true c1917
            clear c1917
            by_cases c1922 : a1857 < 2
            · have H := if_yes c1922 H
              have c1922b0 : decide (a1857 < 2) = true := decide_eq_true c1922
              clear c1922
              have hc1908 : w1906.cell? ⟨g1863, 0, none⟩ = some (.int .u8 a1854) := blk_cellv (HS.out.at4) 0 rfl
              have hc1913 : w1906.cell? ⟨g1866, 0, none⟩ = some (.int .u8 a1857) := blk_cellv (HS.out.at5) 0 rfl
              replace HS : Aside0 (Sep (fps []) w [b7 g1894 g1895 t1876.1 t1876.2.1 t1876.2.2.1 t1876.2.2.2.1, b6 g1895 A1896 ((t1876.2.2.2.2).length) n1898 0, r2 A1896 ((t1876.2.2.2.2).length) n1898 t1876.2.2.2.2, b8 g1863 a1854 a1855 a1856, b8 g1866 a1857 a1858 a1859] w1906) := ⟨HS.out.sub (.cons_cons _ (.cons_cons _ (.cons_cons _ (.cons _ (.cons_cons _ (.cons_cons _ .slnil))))))⟩
              have hc1918 : w1906.cell? ⟨g1863, 2, none⟩ = some (.int .i64 a1856) := blk_cellv (HS.out.at3) 2 rfl
              have hz1919 : w1906.frozen? ⟨g1863, 2, none⟩ = false := blk_fz (HS.out.at3) 2
              go_wp2_with (first | ((with_reducible refine gate_store (t := 3) (p := 46) rfl ?_); refine store_event (w1 := (World.setCell w1906 ⟨g1863, 2, none⟩ (.int .i64 0))) rfl (t := 3) (p := 46) rfl rfl ?hr ?_; (case hr => first | (go_simp; done) | (go_simp; rfl)); intro w1920 hst; clear hc1908 hc1913 hc1918 hz1919; have hq0 : Sep (fps []) w [b7 g1894 g1895 t1876.1 t1876.2.1 t1876.2.2.1 t1876.2.2.2.1, b6 g1895 A1896 ((t1876.2.2.2.2).length) n1898 0, r2 A1896 ((t1876.2.2.2.2).length) n1898 t1876.2.2.2.2, b8 g1863 a1854 a1855 0, b8 g1866 a1857 a1858 a1859] (World.setCell w1906 ⟨g1863, 2, none⟩ (.int .i64 0)) := (HS.out).set1 (l1 := [b7 g1894 g1895 t1876.1 t1876.2.1 t1876.2.2.1 t1876.2.2.2.1, b6 g1895 A1896 ((t1876.2.2.2.2).length) n1898 0, r2 A1896 ((t1876.2.2.2.2).length) n1898 t1876.2.2.2.2]) (l2 := [b8 g1866 a1857 a1858 a1859]) 2 (.int .i64 0); replace HS : Aside0 (Sep (fps []) w [b7 g1894 g1895 t1876.1 t1876.2.1 t1876.2.2.1 t1876.2.2.2.1, b6 g1895 A1896 ((t1876.2.2.2.2).length) n1898 0, r2 A1896 ((t1876.2.2.2.2).length) n1898 t1876.2.2.2.2, b8 g1863 a1854 a1855 0, b8 g1866 a1857 a1858 a1859] w1920) := ⟨by rw [hst]; exact hq0⟩; clear hq0; clear hst; have hc1921 : w1920.cell? ⟨g1866, 0, none⟩ = some (.int .u8 a1857) := blk_cellv (HS.out.at4) 0 rfl; have hc1923 : w1920.cell? ⟨g1866, 2, none⟩ = some (.int .i64 a1859) := blk_cellv (HS.out.at4) 2 rfl; have hz1924 : w1920.frozen? ⟨g1866, 2, none⟩ = false := blk_fz (HS.out.at4) 2) | ((with_reducible refine gate_store (t := 3) (p := 50) rfl ?_); refine store_event (w1 := (World.setCell w1920 ⟨g1866, 2, none⟩ (.int .i64 0))) rfl (t := 3) (p := 50) rfl rfl ?hr ?_; (case hr => first | (go_simp; done) | (go_simp; rfl)); intro w1925 hst; clear hc1921 hc1923 hz1924; have hq0 : Sep (fps []) w [b7 g1894 g1895 t1876.1 t1876.2.1 t1876.2.2.1 t1876.2.2.2.1, b6 g1895 A1896 ((t1876.2.2.2.2).length) n1898 0, r2 A1896 ((t1876.2.2.2.2).length) n1898 t1876.2.2.2.2, b8 g1863 a1854 a1855 0, b8 g1866 a1857 a1858 0] (World.setCell w1920 ⟨g1866, 2, none⟩ (.int .i64 0)) := (HS.out).set1 (l1 := [b7 g1894 g1895 t1876.1 t1876.2.1 t1876.2.2.1 t1876.2.2.2.1, b6 g1895 A1896 ((t1876.2.2.2.2).length) n1898 0, r2 A1896 ((t1876.2.2.2.2).length) n1898 t1876.2.2.2.2, b8 g1863 a1854 a1855 0]) (l2 := []) 2 (.int .i64 0); replace HS : Aside0 (Sep (fps []) w [b7 g1894 g1895 t1876.1 t1876.2.1 t1876.2.2.1 t1876.2.2.2.1, b6 g1895 A1896 ((t1876.2.2.2.2).length) n1898 0, r2 A1896 ((t1876.2.2.2.2).length) n1898 t1876.2.2.2.2, b8 g1863 a1854 a1855 0, b8 g1866 a1857 a1858 0] w1925) := ⟨by rw [hst]; exact hq0⟩; clear hq0; clear hst; have hc1926 : w1925.cell? ⟨g1863, 0, none⟩ = some (.int .u8 a1854) := blk_cellv (HS.out.at3) 0 rfl; have hc1927 : w1925.cell? ⟨g1863, 1, none⟩ = some (.int .i64 a1855) := blk_cellv (HS.out.at3) 1 rfl; have hc1928 : w1925.cell? ⟨g1863, 2, none⟩ = some (.int .i64 0) := blk_cellv (HS.out.at3) 2 rfl))
              clear hc1926 hc1927 hc1928
              obtain ⟨t2090, HA2091, H⟩ := bind_some H
              refine (quitrentlaw05_put.calls t1876.2.2.2.2 0 t1876.1 t1876.2.1 t1876.2.2.1 t1876.2.2.2.1 a1854 a1855 0 5 g1894 g1895 A1896 ((t1876.2.2.2.2).length) n1898 t2090 _ ⟨HS.out.begin (l := [b7 g1894 g1895 t1876.1 t1876.2.1 t1876.2.2.1 t1876.2.2.2.1, b6 g1895 A1896 ((t1876.2.2.2.2).length) n1898 0, r2 A1896 ((t1876.2.2.2.2).length) n1898 t1876.2.2.2.2]) (rest := [b8 g1863 a1854 a1855 0, b8 g1866 a1857 a1858 0])⟩ HA2091).mono ?_
              rintro e_ w2092 ⟨rfl, hS⟩
              replace HS : Aside0 (Sep (fps []) w [b7 g1894 g1895 t1876.1 t1876.2.1 t1876.2.2.1 t1876.2.2.2.1, b6 g1895 A1896 ((t1876.2.2.2.2).length) n1898 t2090.2.1, r2 A1896 ((t1876.2.2.2.2).length) n1898 t2090.2.2, b8 g1863 a1854 a1855 0, b8 g1866 a1857 a1858 0] w2092) := ⟨HS.out.call (l := [b7 g1894 g1895 t1876.1 t1876.2.1 t1876.2.2.1 t1876.2.2.2.1, b6 g1895 A1896 ((t1876.2.2.2.2).length) n1898 0, r2 A1896 ((t1876.2.2.2.2).length) n1898 t1876.2.2.2.2]) (rest := [b8 g1863 a1854 a1855 0, b8 g1866 a1857 a1858 0]) hS⟩
              clear hS
              by_cases c2093 : t2090.1 = true
              · have H := if_yes c2093 H
                have c2093b0 : t2090.1 = true := c2093
                have c2093b1 : (!t2090.1) = false := by rw [c2093b0]; rfl
                try rw [c2093b1]
                clear c2093
                by_cases c2100 : a1854 = a1857
                · have H := if_yes c2100 H
                  have c2100b0 : (a1854 == a1857) = true := beq_iff_eq.mpr c2100
                  have c2100b1 : (a1854 != a1857) = false := bne_eq_false_iff_eq.mpr c2100
                  clear c2100
                  by_cases c2101 : a1855 = a1858
                  · have H := if_yes c2101 H
                    have c2101b0 : (a1855 == a1858) = true := beq_iff_eq.mpr c2101
                    have c2101b1 : (a1855 != a1858) = false := bne_eq_false_iff_eq.mpr c2101
                    clear c2101
                    have hc2094 : w2092.cell? ⟨g1863, 0, none⟩ = some (.int .u8 a1854) := blk_cellv (HS.out.at3) 0 rfl
                    have hc2095 : w2092.cell? ⟨g1863, 1, none⟩ = some (.int .i64 a1855) := blk_cellv (HS.out.at3) 1 rfl
                    have hc2096 : w2092.cell? ⟨g1863, 2, none⟩ = some (.int .i64 0) := blk_cellv (HS.out.at3) 2 rfl
                    have hc2097 : w2092.cell? ⟨g1866, 0, none⟩ = some (.int .u8 a1857) := blk_cellv (HS.out.at4) 0 rfl
                    have hc2098 : w2092.cell? ⟨g1866, 1, none⟩ = some (.int .i64 a1858) := blk_cellv (HS.out.at4) 1 rfl
                    have hc2099 : w2092.cell? ⟨g1866, 2, none⟩ = some (.int .i64 0) := blk_cellv (HS.out.at4) 2 rfl
                    go_wp2_with fail
                    clear hc2094 hc2095 hc2096 hc2097 hc2098 hc2099
                    obtain ⟨t2102, HA2103, H⟩ := bind_some H
                    refine (quitrentlaw05_begun.calls _ t2102 _ ⟨HS.out.begin (l := []) (rest := [b7 g1894 g1895 t1876.1 t1876.2.1 t1876.2.2.1 t1876.2.2.2.1, b6 g1895 A1896 ((t1876.2.2.2.2).length) n1898 t2090.2.1, r2 A1896 ((t1876.2.2.2.2).length) n1898 t2090.2.2, b8 g1863 a1854 a1855 0, b8 g1866 a1857 a1858 0])⟩ HA2103).mono ?_
                    rintro e_ w2104 ⟨rfl, hS⟩
                    replace HS : Aside0 (Sep (fps []) w [b7 g1894 g1895 t1876.1 t1876.2.1 t1876.2.2.1 t1876.2.2.2.1, b6 g1895 A1896 ((t1876.2.2.2.2).length) n1898 t2090.2.1, r2 A1896 ((t1876.2.2.2.2).length) n1898 t2090.2.2, b8 g1863 a1854 a1855 0, b8 g1866 a1857 a1858 0] w2104) := ⟨HS.out.call (l := []) (rest := [b7 g1894 g1895 t1876.1 t1876.2.1 t1876.2.2.1 t1876.2.2.2.1, b6 g1895 A1896 ((t1876.2.2.2.2).length) n1898 t2090.2.1, r2 A1896 ((t1876.2.2.2.2).length) n1898 t2090.2.2, b8 g1863 a1854 a1855 0, b8 g1866 a1857 a1858 0]) hS⟩
                    clear hS
                    replace HS : Aside0 (Sep (fps []) w [] w2104) := ⟨HS.out.sub (.cons _ (.cons _ (.cons _ (.cons _ (.cons _ .slnil)))))⟩
                    go_wp2_with fail
                    go_ret
                    rw [← some_eq H]
                    exact ⟨(by first | rfl | (simp [IntKind.wrap_u32]; done)), (HS.out).keep (l := []) (rest := [])⟩
                  · have H := if_no c2101 H
                    have c2101b0 : (a1855 == a1858) = false := beq_eq_false_iff_ne.mpr c2101
                    have c2101b1 : (a1855 != a1858) = true := bne_iff_ne.mpr c2101
                    clear c2101
                    have hc2094 : w2092.cell? ⟨g1863, 0, none⟩ = some (.int .u8 a1854) := blk_cellv (HS.out.at3) 0 rfl
                    have hc2095 : w2092.cell? ⟨g1863, 1, none⟩ = some (.int .i64 a1855) := blk_cellv (HS.out.at3) 1 rfl
                    have hc2096 : w2092.cell? ⟨g1863, 2, none⟩ = some (.int .i64 0) := blk_cellv (HS.out.at3) 2 rfl
                    have hc2097 : w2092.cell? ⟨g1866, 0, none⟩ = some (.int .u8 a1857) := blk_cellv (HS.out.at4) 0 rfl
                    have hc2098 : w2092.cell? ⟨g1866, 1, none⟩ = some (.int .i64 a1858) := blk_cellv (HS.out.at4) 1 rfl
                    have hc2099 : w2092.cell? ⟨g1866, 2, none⟩ = some (.int .i64 0) := blk_cellv (HS.out.at4) 2 rfl
                    go_wp2_with fail
                    clear hc2094 hc2095 hc2096 hc2097 hc2098 hc2099
                    obtain ⟨t2105, HA2106, H⟩ := bind_some H
                    refine (quitrentlaw05_put.calls t2090.2.2 t2090.2.1 t1876.1 t1876.2.1 t1876.2.2.1 t1876.2.2.2.1 a1857 a1858 0 6 g1894 g1895 A1896 ((t1876.2.2.2.2).length) n1898 t2105 _ ⟨HS.out.begin (l := [b7 g1894 g1895 t1876.1 t1876.2.1 t1876.2.2.1 t1876.2.2.2.1, b6 g1895 A1896 ((t1876.2.2.2.2).length) n1898 t2090.2.1, r2 A1896 ((t1876.2.2.2.2).length) n1898 t2090.2.2]) (rest := [b8 g1863 a1854 a1855 0, b8 g1866 a1857 a1858 0])⟩ HA2106).mono ?_
                    rintro e_ w2107 ⟨rfl, hS⟩
                    replace HS : Aside0 (Sep (fps []) w [b7 g1894 g1895 t1876.1 t1876.2.1 t1876.2.2.1 t1876.2.2.2.1, b6 g1895 A1896 ((t1876.2.2.2.2).length) n1898 t2105.2.1, r2 A1896 ((t1876.2.2.2.2).length) n1898 t2105.2.2, b8 g1863 a1854 a1855 0, b8 g1866 a1857 a1858 0] w2107) := ⟨HS.out.call (l := [b7 g1894 g1895 t1876.1 t1876.2.1 t1876.2.2.1 t1876.2.2.2.1, b6 g1895 A1896 ((t1876.2.2.2.2).length) n1898 t2090.2.1, r2 A1896 ((t1876.2.2.2.2).length) n1898 t2090.2.2]) (rest := [b8 g1863 a1854 a1855 0, b8 g1866 a1857 a1858 0]) hS⟩
                    clear hS
                    by_cases c2108 : t2105.1 = true
                    · have H := if_yes c2108 H
                      have c2108b0 : t2105.1 = true := c2108
                      have c2108b1 : (!t2105.1) = false := by rw [c2108b0]; rfl
                      try rw [c2108b1]
                      clear c2108
                      go_wp2_with fail
                      obtain ⟨t2109, HA2110, H⟩ := bind_some H
                      refine (ground_Ground_Words.calls t2105.2.2 t2105.2.1 t1876.1 t1876.2.1 t1876.2.2.1 t1876.2.2.2.1 g1894 g1895 A1896 ((t1876.2.2.2.2).length) n1898 t2109 _ ⟨HS.out.begin (l := [b7 g1894 g1895 t1876.1 t1876.2.1 t1876.2.2.1 t1876.2.2.2.1, b6 g1895 A1896 ((t1876.2.2.2.2).length) n1898 t2105.2.1, r2 A1896 ((t1876.2.2.2.2).length) n1898 t2105.2.2]) (rest := [b8 g1863 a1854 a1855 0, b8 g1866 a1857 a1858 0])⟩ HA2110).mono ?_
                      rintro e_ w2111 ⟨A2113, m2114, n2115, rfl, hS⟩
                      replace HS : Aside0 (Sep (fps []) w [b7 g1894 g1895 t1876.1 t1876.2.1 t1876.2.2.1 t1876.2.2.2.1, b6 g1895 A1896 ((t1876.2.2.2.2).length) n1898 t2105.2.1, r2 A1896 ((t1876.2.2.2.2).length) n1898 t2105.2.2, r2 A2113 m2114 n2115 t2109, b8 g1863 a1854 a1855 0, b8 g1866 a1857 a1858 0] w2111) := ⟨HS.out.call (l := [b7 g1894 g1895 t1876.1 t1876.2.1 t1876.2.2.1 t1876.2.2.2.1, b6 g1895 A1896 ((t1876.2.2.2.2).length) n1898 t2105.2.1, r2 A1896 ((t1876.2.2.2.2).length) n1898 t2105.2.2]) (rest := [b8 g1863 a1854 a1855 0, b8 g1866 a1857 a1858 0]) hS⟩
                      clear hS
                      obtain rfl := (row_len (HS.out.at3)).symm
                      go_wp2_with fail
                      obtain ⟨o2118, AL2119, H⟩ := bind_some H
                      go_loopg [9, 70] k (fun kq v9 v70 wc => ∃ (x2122 : Int) (x2123 : Int), v9 = .int .i64 x2122 ∧ v70 = .int .i64 x2123 ∧ Aside0 (quitrentlaw05_GroundApart.lo0 kq t2109 x2122 x2123 = some o2118) ∧ Aside0 (Sep (fps []) w [b7 g1894 g1895 t1876.1 t1876.2.1 t1876.2.2.1 t1876.2.2.2.1, b6 g1895 A1896 ((t1876.2.2.2.2).length) n1898 t2105.2.1, r2 A1896 ((t1876.2.2.2.2).length) n1898 t2105.2.2, r2 A2113 t2109.length n2115 t2109, b8 g1863 a1854 a1855 0, b8 g1866 a1857 a1858 0] wc))
                      case atStart => exact ⟨(0), (0), (by first | rfl | (simp [IntKind.wrap_u32]; done)), (by first | rfl | (simp [IntKind.wrap_u32]; done)), AL2119, ⟨HS.out⟩⟩
                      case round =>
                        clear AL2119 HS
                        obtain ⟨x2122, x2123, rfl, rfl, AL2119, HS⟩ := hrel
                        obtain ⟨w2120, rfl⟩ : ∃ x : World, x = wr := ⟨_, rfl⟩
                        cases gk with
                        | zero => exact absurd AL2119.out (by simp [quitrentlaw05_GroundApart.lo0])
                        | succ k2121 =>
                          have AL0 := AL2119.out
                          rw [quitrentlaw05_GroundApart.lo0] at AL0
                          clear AL2119
                          have AL2119 := Aside0.mk AL0
                          clear AL0
                          by_cases c2124 : x2123 < (t2109.length : Int)
                          · have AL2119 := if_yes c2124 AL2119
                            have c2124b0 : decide (x2123 < (t2109.length : Int)) = true := decide_eq_true c2124
                            clear c2124
                            by_cases c2125 : 0 ≤ x2123
                            · have AL2119 := if_yes c2125 AL2119
                              have c2125b0 : decide (0 ≤ x2123) = true := decide_eq_true c2125
                              have c2125p : (0 ≤ x2123) = True := eq_true c2125
                              clear c2125
                              have ip2126 : (x2123 < (t2109.length : Int)) = True := eq_true (of_decide_eq_true c2124b0)
                              by_cases c2130 : (rd t2109 x2123) = 0
                              · have AL2119 := if_yes c2130 AL2119
                                have c2130b0 : ((rd t2109 x2123) == 0) = true := beq_iff_eq.mpr c2130
                                have c2130b1 : ((rd t2109 x2123) != 0) = false := bne_eq_false_iff_eq.mpr c2130
                                clear c2130
                                obtain ⟨g2127, ea⟩ := row_at (HS.out.at3) (by have := (of_decide_eq_true c2125b0); have := (of_decide_eq_true c2124b0); omega); cases ea
                                have hx2128 := C_at_int (row_Ci (HS.out.at3)) x2123 (of_decide_eq_true c2125b0) (of_decide_eq_true c2124b0)
                                have hx2129 : w2120.cell? ⟨g2127, (x2123).toNat, none⟩ = some (.int .u32 (rd t2109 x2123)) := (row_get 0 (HS.out.at3) x2123 (of_decide_eq_true c2125b0) (of_decide_eq_true c2124b0)).1
                                go_wp2_with fail
                                clear hx2128 hx2129
                                go_roundg k2121
                                case measure => exact Nat.lt_succ_self _
                                case rel => exact ⟨(x2122), (wrap64 (x2123 + 1)), (by first | rfl | (simp [IntKind.wrap_u32]; done)), (by first | rfl | (simp [IntKind.wrap_u32]; done)), Aside0.mk AL2119.out, ⟨(((((((HS.out).front 5 (by simp)).front 5 (by simp)).front 5 (by simp)).front 5 (by simp)).front 5 (by simp)).front 5 (by simp)).keep (l := [b7 g1894 g1895 t1876.1 t1876.2.1 t1876.2.2.1 t1876.2.2.2.1, b6 g1895 A1896 ((t1876.2.2.2.2).length) n1898 t2105.2.1, r2 A1896 ((t1876.2.2.2.2).length) n1898 t2105.2.2, r2 (some ⟨g2127, 0, none⟩) t2109.length n2115 t2109, b8 g1863 a1854 a1855 0, b8 g1866 a1857 a1858 0]) (rest := [])⟩⟩
                              · have AL2119 := if_no c2130 AL2119
                                have c2130b0 : ((rd t2109 x2123) == 0) = false := beq_eq_false_iff_ne.mpr c2130
                                have c2130b1 : ((rd t2109 x2123) != 0) = true := bne_iff_ne.mpr c2130
                                clear c2130
                                obtain ⟨g2127, ea⟩ := row_at (HS.out.at3) (by have := (of_decide_eq_true c2125b0); have := (of_decide_eq_true c2124b0); omega); cases ea
                                have hx2128 := C_at_int (row_Ci (HS.out.at3)) x2123 (of_decide_eq_true c2125b0) (of_decide_eq_true c2124b0)
                                have hx2129 : w2120.cell? ⟨g2127, (x2123).toNat, none⟩ = some (.int .u32 (rd t2109 x2123)) := (row_get 0 (HS.out.at3) x2123 (of_decide_eq_true c2125b0) (of_decide_eq_true c2124b0)).1
                                go_wp2_with fail
                                clear hx2128 hx2129
                                go_roundg k2121
                                case measure => exact Nat.lt_succ_self _
                                case rel => exact ⟨(wrap64 (x2122 + 1)), (wrap64 (x2123 + 1)), (by first | rfl | (simp [IntKind.wrap_u32]; done)), (by first | rfl | (simp [IntKind.wrap_u32]; done)), Aside0.mk AL2119.out, ⟨(((((((HS.out).front 5 (by simp)).front 5 (by simp)).front 5 (by simp)).front 5 (by simp)).front 5 (by simp)).front 5 (by simp)).keep (l := [b7 g1894 g1895 t1876.1 t1876.2.1 t1876.2.2.1 t1876.2.2.2.1, b6 g1895 A1896 ((t1876.2.2.2.2).length) n1898 t2105.2.1, r2 A1896 ((t1876.2.2.2.2).length) n1898 t2105.2.2, r2 (some ⟨g2127, 0, none⟩) t2109.length n2115 t2109, b8 g1863 a1854 a1855 0, b8 g1866 a1857 a1858 0]) (rest := [])⟩⟩
                            · have AL2119 := if_no c2125 AL2119
                              have c2125b0 : decide (0 ≤ x2123) = false := decide_eq_false c2125
                              clear c2125
                              exact (none_no AL2119).elim
                          · have AL2119 := if_no c2124 AL2119
                            have c2124b0 : decide (x2123 < (t2109.length : Int)) = false := decide_eq_false c2124
                            clear c2124
                            have ho := some_eq AL2119
                            subst ho
                            clear AL2119
                            have hc2131 : w2120.cell? ⟨g1863, 0, none⟩ = some (.int .u8 a1854) := blk_cellv (HS.out.at4) 0 rfl
                            have hc2132 : w2120.cell? ⟨g1863, 1, none⟩ = some (.int .i64 a1855) := blk_cellv (HS.out.at4) 1 rfl
                            have hc2133 : w2120.cell? ⟨g1863, 2, none⟩ = some (.int .i64 0) := blk_cellv (HS.out.at4) 2 rfl
                            go_wp2_with fail
                            clear hc2131 hc2132 hc2133
                            obtain ⟨t2249, HA2250, H⟩ := bind_some H
                            refine (quitrentlaw05_get.calls t2105.2.2 t2105.2.1 t1876.1 t1876.2.1 t1876.2.2.1 t1876.2.2.2.1 a1854 a1855 0 g1894 g1895 A1896 ((t1876.2.2.2.2).length) n1898 t2249 _ ⟨HS.out.begin (l := [b7 g1894 g1895 t1876.1 t1876.2.1 t1876.2.2.1 t1876.2.2.2.1, b6 g1895 A1896 ((t1876.2.2.2.2).length) n1898 t2105.2.1, r2 A1896 ((t1876.2.2.2.2).length) n1898 t2105.2.2]) (rest := [r2 A2113 t2109.length n2115 t2109, b8 g1863 a1854 a1855 0, b8 g1866 a1857 a1858 0])⟩ HA2250).mono ?_
                            rintro e_ w2251 ⟨rfl, hS⟩
                            replace HS : Aside0 (Sep (fps []) w [b7 g1894 g1895 t1876.1 t1876.2.1 t1876.2.2.1 t1876.2.2.2.1, b6 g1895 A1896 ((t1876.2.2.2.2).length) n1898 t2249.2, r2 A1896 ((t1876.2.2.2.2).length) n1898 t2105.2.2, r2 A2113 t2109.length n2115 t2109, b8 g1863 a1854 a1855 0, b8 g1866 a1857 a1858 0] w2251) := ⟨HS.out.call (l := [b7 g1894 g1895 t1876.1 t1876.2.1 t1876.2.2.1 t1876.2.2.2.1, b6 g1895 A1896 ((t1876.2.2.2.2).length) n1898 t2105.2.1, r2 A1896 ((t1876.2.2.2.2).length) n1898 t2105.2.2]) (rest := [r2 A2113 t2109.length n2115 t2109, b8 g1863 a1854 a1855 0, b8 g1866 a1857 a1858 0]) hS⟩
                            clear hS
                            by_cases c2252 : t2249.1 = 5
                            · have H := if_yes c2252 H
                              have c2252b0 : (t2249.1 == 5) = true := beq_iff_eq.mpr c2252
                              have c2252b1 : (t2249.1 != 5) = false := bne_eq_false_iff_eq.mpr c2252
                              clear c2252
                              have hc2253 : w2251.cell? ⟨g1866, 0, none⟩ = some (.int .u8 a1857) := blk_cellv (HS.out.at5) 0 rfl
                              have hc2254 : w2251.cell? ⟨g1866, 1, none⟩ = some (.int .i64 a1858) := blk_cellv (HS.out.at5) 1 rfl
                              have hc2255 : w2251.cell? ⟨g1866, 2, none⟩ = some (.int .i64 0) := blk_cellv (HS.out.at5) 2 rfl
                              go_wp2_with fail
                              clear hc2253 hc2254 hc2255
                              obtain ⟨t2256, HA2257, H⟩ := bind_some H
                              refine (quitrentlaw05_get.calls t2105.2.2 t2249.2 t1876.1 t1876.2.1 t1876.2.2.1 t1876.2.2.2.1 a1857 a1858 0 g1894 g1895 A1896 ((t1876.2.2.2.2).length) n1898 t2256 _ ⟨HS.out.begin (l := [b7 g1894 g1895 t1876.1 t1876.2.1 t1876.2.2.1 t1876.2.2.2.1, b6 g1895 A1896 ((t1876.2.2.2.2).length) n1898 t2249.2, r2 A1896 ((t1876.2.2.2.2).length) n1898 t2105.2.2]) (rest := [r2 A2113 t2109.length n2115 t2109, b8 g1863 a1854 a1855 0, b8 g1866 a1857 a1858 0])⟩ HA2257).mono ?_
                              rintro e_ w2258 ⟨rfl, hS⟩
                              replace HS : Aside0 (Sep (fps []) w [b7 g1894 g1895 t1876.1 t1876.2.1 t1876.2.2.1 t1876.2.2.2.1, b6 g1895 A1896 ((t1876.2.2.2.2).length) n1898 t2256.2, r2 A1896 ((t1876.2.2.2.2).length) n1898 t2105.2.2, r2 A2113 t2109.length n2115 t2109, b8 g1863 a1854 a1855 0, b8 g1866 a1857 a1858 0] w2258) := ⟨HS.out.call (l := [b7 g1894 g1895 t1876.1 t1876.2.1 t1876.2.2.1 t1876.2.2.2.1, b6 g1895 A1896 ((t1876.2.2.2.2).length) n1898 t2249.2, r2 A1896 ((t1876.2.2.2.2).length) n1898 t2105.2.2]) (rest := [r2 A2113 t2109.length n2115 t2109, b8 g1863 a1854 a1855 0, b8 g1866 a1857 a1858 0]) hS⟩
                              clear hS
                              by_cases c2259 : t2256.1 = 6
                              · have H := if_yes c2259 H
                                have c2259b0 : (t2256.1 == 6) = true := beq_iff_eq.mpr c2259
                                have c2259b1 : (t2256.1 != 6) = false := bne_eq_false_iff_eq.mpr c2259
                                clear c2259
                                by_cases c2260 : x2122 = 2
                                · have H := if_yes c2260 H
                                  have c2260b0 : (x2122 == 2) = true := beq_iff_eq.mpr c2260
                                  have c2260b1 : (x2122 != 2) = false := bne_eq_false_iff_eq.mpr c2260
                                  clear c2260
                                  go_wp2_with fail
                                  obtain ⟨t2261, HA2262, H⟩ := bind_some H
                                  refine (quitrentlaw05_begun.calls _ t2261 _ ⟨HS.out.begin (l := []) (rest := [b7 g1894 g1895 t1876.1 t1876.2.1 t1876.2.2.1 t1876.2.2.2.1, b6 g1895 A1896 ((t1876.2.2.2.2).length) n1898 t2256.2, r2 A1896 ((t1876.2.2.2.2).length) n1898 t2105.2.2, r2 A2113 t2109.length n2115 t2109, b8 g1863 a1854 a1855 0, b8 g1866 a1857 a1858 0])⟩ HA2262).mono ?_
                                  rintro e_ w2263 ⟨rfl, hS⟩
                                  replace HS : Aside0 (Sep (fps []) w [b7 g1894 g1895 t1876.1 t1876.2.1 t1876.2.2.1 t1876.2.2.2.1, b6 g1895 A1896 ((t1876.2.2.2.2).length) n1898 t2256.2, r2 A1896 ((t1876.2.2.2.2).length) n1898 t2105.2.2, r2 A2113 t2109.length n2115 t2109, b8 g1863 a1854 a1855 0, b8 g1866 a1857 a1858 0] w2263) := ⟨HS.out.call (l := []) (rest := [b7 g1894 g1895 t1876.1 t1876.2.1 t1876.2.2.1 t1876.2.2.2.1, b6 g1895 A1896 ((t1876.2.2.2.2).length) n1898 t2256.2, r2 A1896 ((t1876.2.2.2.2).length) n1898 t2105.2.2, r2 A2113 t2109.length n2115 t2109, b8 g1863 a1854 a1855 0, b8 g1866 a1857 a1858 0]) hS⟩
                                  clear hS
                                  replace HS : Aside0 (Sep (fps []) w [] w2263) := ⟨HS.out.sub (.cons _ (.cons _ (.cons _ (.cons _ (.cons _ (.cons _ .slnil))))))⟩
                                  go_wp2_with fail
                                  go_ret
                                  rw [← some_eq H]
                                  exact ⟨(by first | rfl | (simp [IntKind.wrap_u32]; done)), (HS.out).keep (l := []) (rest := [])⟩
                                · have H := if_no c2260 H
                                  have c2260b0 : (x2122 == 2) = false := beq_eq_false_iff_ne.mpr c2260
                                  have c2260b1 : (x2122 != 2) = true := bne_iff_ne.mpr c2260
                                  clear c2260
                                  replace HS : Aside0 (Sep (fps []) w [] w2258) := ⟨HS.out.sub (.cons _ (.cons _ (.cons _ (.cons _ (.cons _ (.cons _ .slnil))))))⟩
                                  go_wp2_with fail
                                  go_ret
                                  rw [← some_eq H]
                                  exact ⟨(by first | rfl | (simp [IntKind.wrap_u32]; done)), (HS.out).keep (l := []) (rest := [])⟩
                              · have H := if_no c2259 H
                                have c2259b0 : (t2256.1 == 6) = false := beq_eq_false_iff_ne.mpr c2259
                                have c2259b1 : (t2256.1 != 6) = true := bne_iff_ne.mpr c2259
                                clear c2259
                                replace HS : Aside0 (Sep (fps []) w [] w2258) := ⟨HS.out.sub (.cons _ (.cons _ (.cons _ (.cons _ (.cons _ (.cons _ .slnil))))))⟩
                                go_wp2_with fail
                                go_ret
                                rw [← some_eq H]
                                exact ⟨(by first | rfl | (simp [IntKind.wrap_u32]; done)), (HS.out).keep (l := []) (rest := [])⟩
                            · have H := if_no c2252 H
                              have c2252b0 : (t2249.1 == 5) = false := beq_eq_false_iff_ne.mpr c2252
                              have c2252b1 : (t2249.1 != 5) = true := bne_iff_ne.mpr c2252
                              clear c2252
                              replace HS : Aside0 (Sep (fps []) w [] w2251) := ⟨HS.out.sub (.cons _ (.cons _ (.cons _ (.cons _ (.cons _ (.cons _ .slnil))))))⟩
                              go_wp2_with fail
                              go_ret
                              rw [← some_eq H]
                              exact ⟨(by first | rfl | (simp [IntKind.wrap_u32]; done)), (HS.out).keep (l := []) (rest := [])⟩
                    · have H := if_no c2108 H
                      have c2108b0 : t2105.1 = false := by simpa using c2108
                      have c2108b1 : (!t2105.1) = true := by rw [c2108b0]; rfl
                      try rw [c2108b1]
                      clear c2108
                      go_wp2_with fail
                      obtain ⟨t2102, HA2280, H⟩ := bind_some H
                      refine (quitrentlaw05_begun.calls _ t2102 _ ⟨HS.out.begin (l := []) (rest := [b7 g1894 g1895 t1876.1 t1876.2.1 t1876.2.2.1 t1876.2.2.2.1, b6 g1895 A1896 ((t1876.2.2.2.2).length) n1898 t2105.2.1, r2 A1896 ((t1876.2.2.2.2).length) n1898 t2105.2.2, b8 g1863 a1854 a1855 0, b8 g1866 a1857 a1858 0])⟩ HA2280).mono ?_
                      rintro e_ w2281 ⟨rfl, hS⟩
                      replace HS : Aside0 (Sep (fps []) w [b7 g1894 g1895 t1876.1 t1876.2.1 t1876.2.2.1 t1876.2.2.2.1, b6 g1895 A1896 ((t1876.2.2.2.2).length) n1898 t2105.2.1, r2 A1896 ((t1876.2.2.2.2).length) n1898 t2105.2.2, b8 g1863 a1854 a1855 0, b8 g1866 a1857 a1858 0] w2281) := ⟨HS.out.call (l := []) (rest := [b7 g1894 g1895 t1876.1 t1876.2.1 t1876.2.2.1 t1876.2.2.2.1, b6 g1895 A1896 ((t1876.2.2.2.2).length) n1898 t2105.2.1, r2 A1896 ((t1876.2.2.2.2).length) n1898 t2105.2.2, b8 g1863 a1854 a1855 0, b8 g1866 a1857 a1858 0]) hS⟩
                      clear hS
                      replace HS : Aside0 (Sep (fps []) w [] w2281) := ⟨HS.out.sub (.cons _ (.cons _ (.cons _ (.cons _ (.cons _ .slnil)))))⟩
                      go_wp2_with fail
                      go_ret
                      rw [← some_eq H]
                      exact ⟨(by first | rfl | (simp [IntKind.wrap_u32]; done)), (HS.out).keep (l := []) (rest := [])⟩
                · have H := if_no c2100 H
                  have c2100b0 : (a1854 == a1857) = false := beq_eq_false_iff_ne.mpr c2100
                  have c2100b1 : (a1854 != a1857) = true := bne_iff_ne.mpr c2100
                  clear c2100
                  have hc2094 : w2092.cell? ⟨g1863, 0, none⟩ = some (.int .u8 a1854) := blk_cellv (HS.out.at3) 0 rfl
                  have hc2095 : w2092.cell? ⟨g1863, 1, none⟩ = some (.int .i64 a1855) := blk_cellv (HS.out.at3) 1 rfl
                  have hc2096 : w2092.cell? ⟨g1863, 2, none⟩ = some (.int .i64 0) := blk_cellv (HS.out.at3) 2 rfl
                  have hc2097 : w2092.cell? ⟨g1866, 0, none⟩ = some (.int .u8 a1857) := blk_cellv (HS.out.at4) 0 rfl
                  have hc2098 : w2092.cell? ⟨g1866, 1, none⟩ = some (.int .i64 a1858) := blk_cellv (HS.out.at4) 1 rfl
                  have hc2099 : w2092.cell? ⟨g1866, 2, none⟩ = some (.int .i64 0) := blk_cellv (HS.out.at4) 2 rfl
                  go_wp2_with fail
                  clear hc2094 hc2095 hc2096 hc2097 hc2098 hc2099
                  obtain ⟨t2105, HA2282, H⟩ := bind_some H
                  refine (quitrentlaw05_put.calls t2090.2.2 t2090.2.1 t1876.1 t1876.2.1 t1876.2.2.1 t1876.2.2.2.1 a1857 a1858 0 6 g1894 g1895 A1896 ((t1876.2.2.2.2).length) n1898 t2105 _ ⟨HS.out.begin (l := [b7 g1894 g1895 t1876.1 t1876.2.1 t1876.2.2.1 t1876.2.2.2.1, b6 g1895 A1896 ((t1876.2.2.2.2).length) n1898 t2090.2.1, r2 A1896 ((t1876.2.2.2.2).length) n1898 t2090.2.2]) (rest := [b8 g1863 a1854 a1855 0, b8 g1866 a1857 a1858 0])⟩ HA2282).mono ?_
                  rintro e_ w2283 ⟨rfl, hS⟩
                  replace HS : Aside0 (Sep (fps []) w [b7 g1894 g1895 t1876.1 t1876.2.1 t1876.2.2.1 t1876.2.2.2.1, b6 g1895 A1896 ((t1876.2.2.2.2).length) n1898 t2105.2.1, r2 A1896 ((t1876.2.2.2.2).length) n1898 t2105.2.2, b8 g1863 a1854 a1855 0, b8 g1866 a1857 a1858 0] w2283) := ⟨HS.out.call (l := [b7 g1894 g1895 t1876.1 t1876.2.1 t1876.2.2.1 t1876.2.2.2.1, b6 g1895 A1896 ((t1876.2.2.2.2).length) n1898 t2090.2.1, r2 A1896 ((t1876.2.2.2.2).length) n1898 t2090.2.2]) (rest := [b8 g1863 a1854 a1855 0, b8 g1866 a1857 a1858 0]) hS⟩
                  clear hS
                  by_cases c2284 : t2105.1 = true
                  · have H := if_yes c2284 H
                    have c2284b0 : t2105.1 = true := c2284
                    have c2284b1 : (!t2105.1) = false := by rw [c2284b0]; rfl
                    try rw [c2284b1]
                    clear c2284
                    go_wp2_with fail
                    obtain ⟨t2109, HA2285, H⟩ := bind_some H
                    refine (ground_Ground_Words.calls t2105.2.2 t2105.2.1 t1876.1 t1876.2.1 t1876.2.2.1 t1876.2.2.2.1 g1894 g1895 A1896 ((t1876.2.2.2.2).length) n1898 t2109 _ ⟨HS.out.begin (l := [b7 g1894 g1895 t1876.1 t1876.2.1 t1876.2.2.1 t1876.2.2.2.1, b6 g1895 A1896 ((t1876.2.2.2.2).length) n1898 t2105.2.1, r2 A1896 ((t1876.2.2.2.2).length) n1898 t2105.2.2]) (rest := [b8 g1863 a1854 a1855 0, b8 g1866 a1857 a1858 0])⟩ HA2285).mono ?_
                    rintro e_ w2286 ⟨A2288, m2289, n2290, rfl, hS⟩
                    replace HS : Aside0 (Sep (fps []) w [b7 g1894 g1895 t1876.1 t1876.2.1 t1876.2.2.1 t1876.2.2.2.1, b6 g1895 A1896 ((t1876.2.2.2.2).length) n1898 t2105.2.1, r2 A1896 ((t1876.2.2.2.2).length) n1898 t2105.2.2, r2 A2288 m2289 n2290 t2109, b8 g1863 a1854 a1855 0, b8 g1866 a1857 a1858 0] w2286) := ⟨HS.out.call (l := [b7 g1894 g1895 t1876.1 t1876.2.1 t1876.2.2.1 t1876.2.2.2.1, b6 g1895 A1896 ((t1876.2.2.2.2).length) n1898 t2105.2.1, r2 A1896 ((t1876.2.2.2.2).length) n1898 t2105.2.2]) (rest := [b8 g1863 a1854 a1855 0, b8 g1866 a1857 a1858 0]) hS⟩
                    clear hS
                    obtain rfl := (row_len (HS.out.at3)).symm
                    go_wp2_with fail
                    obtain ⟨o2293, AL2294, H⟩ := bind_some H
                    go_loopg [9, 70] k (fun kq v9 v70 wc => ∃ (x2297 : Int) (x2298 : Int), v9 = .int .i64 x2297 ∧ v70 = .int .i64 x2298 ∧ Aside0 (quitrentlaw05_GroundApart.lo1 kq t2109 x2297 x2298 = some o2293) ∧ Aside0 (Sep (fps []) w [b7 g1894 g1895 t1876.1 t1876.2.1 t1876.2.2.1 t1876.2.2.2.1, b6 g1895 A1896 ((t1876.2.2.2.2).length) n1898 t2105.2.1, r2 A1896 ((t1876.2.2.2.2).length) n1898 t2105.2.2, r2 A2288 t2109.length n2290 t2109, b8 g1863 a1854 a1855 0, b8 g1866 a1857 a1858 0] wc))
                    case atStart => exact ⟨(0), (0), (by first | rfl | (simp [IntKind.wrap_u32]; done)), (by first | rfl | (simp [IntKind.wrap_u32]; done)), AL2294, ⟨HS.out⟩⟩
                    case round =>
                      clear AL2294 HS
                      obtain ⟨x2297, x2298, rfl, rfl, AL2294, HS⟩ := hrel
                      obtain ⟨w2295, rfl⟩ : ∃ x : World, x = wr := ⟨_, rfl⟩
                      cases gk with
                      | zero => exact absurd AL2294.out (by simp [quitrentlaw05_GroundApart.lo1])
                      | succ k2296 =>
                        have AL0 := AL2294.out
                        rw [quitrentlaw05_GroundApart.lo1] at AL0
                        clear AL2294
                        have AL2294 := Aside0.mk AL0
                        clear AL0
                        by_cases c2299 : x2298 < (t2109.length : Int)
                        · have AL2294 := if_yes c2299 AL2294
                          have c2299b0 : decide (x2298 < (t2109.length : Int)) = true := decide_eq_true c2299
                          clear c2299
                          by_cases c2300 : 0 ≤ x2298
                          · have AL2294 := if_yes c2300 AL2294
                            have c2300b0 : decide (0 ≤ x2298) = true := decide_eq_true c2300
                            have c2300p : (0 ≤ x2298) = True := eq_true c2300
                            clear c2300
                            have ip2301 : (x2298 < (t2109.length : Int)) = True := eq_true (of_decide_eq_true c2299b0)
                            by_cases c2305 : (rd t2109 x2298) = 0
                            · have AL2294 := if_yes c2305 AL2294
                              have c2305b0 : ((rd t2109 x2298) == 0) = true := beq_iff_eq.mpr c2305
                              have c2305b1 : ((rd t2109 x2298) != 0) = false := bne_eq_false_iff_eq.mpr c2305
                              clear c2305
                              obtain ⟨g2302, ea⟩ := row_at (HS.out.at3) (by have := (of_decide_eq_true c2300b0); have := (of_decide_eq_true c2299b0); omega); cases ea
                              have hx2303 := C_at_int (row_Ci (HS.out.at3)) x2298 (of_decide_eq_true c2300b0) (of_decide_eq_true c2299b0)
                              have hx2304 : w2295.cell? ⟨g2302, (x2298).toNat, none⟩ = some (.int .u32 (rd t2109 x2298)) := (row_get 0 (HS.out.at3) x2298 (of_decide_eq_true c2300b0) (of_decide_eq_true c2299b0)).1
                              go_wp2_with fail
                              clear hx2303 hx2304
                              go_roundg k2296
                              case measure => exact Nat.lt_succ_self _
                              case rel => exact ⟨(x2297), (wrap64 (x2298 + 1)), (by first | rfl | (simp [IntKind.wrap_u32]; done)), (by first | rfl | (simp [IntKind.wrap_u32]; done)), Aside0.mk AL2294.out, ⟨(((((((HS.out).front 5 (by simp)).front 5 (by simp)).front 5 (by simp)).front 5 (by simp)).front 5 (by simp)).front 5 (by simp)).keep (l := [b7 g1894 g1895 t1876.1 t1876.2.1 t1876.2.2.1 t1876.2.2.2.1, b6 g1895 A1896 ((t1876.2.2.2.2).length) n1898 t2105.2.1, r2 A1896 ((t1876.2.2.2.2).length) n1898 t2105.2.2, r2 (some ⟨g2302, 0, none⟩) t2109.length n2290 t2109, b8 g1863 a1854 a1855 0, b8 g1866 a1857 a1858 0]) (rest := [])⟩⟩
                            · have AL2294 := if_no c2305 AL2294
                              have c2305b0 : ((rd t2109 x2298) == 0) = false := beq_eq_false_iff_ne.mpr c2305
                              have c2305b1 : ((rd t2109 x2298) != 0) = true := bne_iff_ne.mpr c2305
                              clear c2305
                              obtain ⟨g2302, ea⟩ := row_at (HS.out.at3) (by have := (of_decide_eq_true c2300b0); have := (of_decide_eq_true c2299b0); omega); cases ea
                              have hx2303 := C_at_int (row_Ci (HS.out.at3)) x2298 (of_decide_eq_true c2300b0) (of_decide_eq_true c2299b0)
                              have hx2304 : w2295.cell? ⟨g2302, (x2298).toNat, none⟩ = some (.int .u32 (rd t2109 x2298)) := (row_get 0 (HS.out.at3) x2298 (of_decide_eq_true c2300b0) (of_decide_eq_true c2299b0)).1
                              go_wp2_with fail
                              clear hx2303 hx2304
                              go_roundg k2296
                              case measure => exact Nat.lt_succ_self _
                              case rel => exact ⟨(wrap64 (x2297 + 1)), (wrap64 (x2298 + 1)), (by first | rfl | (simp [IntKind.wrap_u32]; done)), (by first | rfl | (simp [IntKind.wrap_u32]; done)), Aside0.mk AL2294.out, ⟨(((((((HS.out).front 5 (by simp)).front 5 (by simp)).front 5 (by simp)).front 5 (by simp)).front 5 (by simp)).front 5 (by simp)).keep (l := [b7 g1894 g1895 t1876.1 t1876.2.1 t1876.2.2.1 t1876.2.2.2.1, b6 g1895 A1896 ((t1876.2.2.2.2).length) n1898 t2105.2.1, r2 A1896 ((t1876.2.2.2.2).length) n1898 t2105.2.2, r2 (some ⟨g2302, 0, none⟩) t2109.length n2290 t2109, b8 g1863 a1854 a1855 0, b8 g1866 a1857 a1858 0]) (rest := [])⟩⟩
                          · have AL2294 := if_no c2300 AL2294
                            have c2300b0 : decide (0 ≤ x2298) = false := decide_eq_false c2300
                            clear c2300
                            exact (none_no AL2294).elim
                        · have AL2294 := if_no c2299 AL2294
                          have c2299b0 : decide (x2298 < (t2109.length : Int)) = false := decide_eq_false c2299
                          clear c2299
                          have ho := some_eq AL2294
                          subst ho
                          clear AL2294
                          have hc2306 : w2295.cell? ⟨g1863, 0, none⟩ = some (.int .u8 a1854) := blk_cellv (HS.out.at4) 0 rfl
                          have hc2307 : w2295.cell? ⟨g1863, 1, none⟩ = some (.int .i64 a1855) := blk_cellv (HS.out.at4) 1 rfl
                          have hc2308 : w2295.cell? ⟨g1863, 2, none⟩ = some (.int .i64 0) := blk_cellv (HS.out.at4) 2 rfl
                          go_wp2_with fail
                          clear hc2306 hc2307 hc2308
                          obtain ⟨t2249, HA2309, H⟩ := bind_some H
                          refine (quitrentlaw05_get.calls t2105.2.2 t2105.2.1 t1876.1 t1876.2.1 t1876.2.2.1 t1876.2.2.2.1 a1854 a1855 0 g1894 g1895 A1896 ((t1876.2.2.2.2).length) n1898 t2249 _ ⟨HS.out.begin (l := [b7 g1894 g1895 t1876.1 t1876.2.1 t1876.2.2.1 t1876.2.2.2.1, b6 g1895 A1896 ((t1876.2.2.2.2).length) n1898 t2105.2.1, r2 A1896 ((t1876.2.2.2.2).length) n1898 t2105.2.2]) (rest := [r2 A2288 t2109.length n2290 t2109, b8 g1863 a1854 a1855 0, b8 g1866 a1857 a1858 0])⟩ HA2309).mono ?_
                          rintro e_ w2310 ⟨rfl, hS⟩
                          replace HS : Aside0 (Sep (fps []) w [b7 g1894 g1895 t1876.1 t1876.2.1 t1876.2.2.1 t1876.2.2.2.1, b6 g1895 A1896 ((t1876.2.2.2.2).length) n1898 t2249.2, r2 A1896 ((t1876.2.2.2.2).length) n1898 t2105.2.2, r2 A2288 t2109.length n2290 t2109, b8 g1863 a1854 a1855 0, b8 g1866 a1857 a1858 0] w2310) := ⟨HS.out.call (l := [b7 g1894 g1895 t1876.1 t1876.2.1 t1876.2.2.1 t1876.2.2.2.1, b6 g1895 A1896 ((t1876.2.2.2.2).length) n1898 t2105.2.1, r2 A1896 ((t1876.2.2.2.2).length) n1898 t2105.2.2]) (rest := [r2 A2288 t2109.length n2290 t2109, b8 g1863 a1854 a1855 0, b8 g1866 a1857 a1858 0]) hS⟩
                          clear hS
                          by_cases c2311 : t2249.1 = 5
                          · have H := if_yes c2311 H
                            have c2311b0 : (t2249.1 == 5) = true := beq_iff_eq.mpr c2311
                            have c2311b1 : (t2249.1 != 5) = false := bne_eq_false_iff_eq.mpr c2311
                            clear c2311
                            have hc2312 : w2310.cell? ⟨g1866, 0, none⟩ = some (.int .u8 a1857) := blk_cellv (HS.out.at5) 0 rfl
                            have hc2313 : w2310.cell? ⟨g1866, 1, none⟩ = some (.int .i64 a1858) := blk_cellv (HS.out.at5) 1 rfl
                            have hc2314 : w2310.cell? ⟨g1866, 2, none⟩ = some (.int .i64 0) := blk_cellv (HS.out.at5) 2 rfl
                            go_wp2_with fail
                            clear hc2312 hc2313 hc2314
                            obtain ⟨t2256, HA2315, H⟩ := bind_some H
                            refine (quitrentlaw05_get.calls t2105.2.2 t2249.2 t1876.1 t1876.2.1 t1876.2.2.1 t1876.2.2.2.1 a1857 a1858 0 g1894 g1895 A1896 ((t1876.2.2.2.2).length) n1898 t2256 _ ⟨HS.out.begin (l := [b7 g1894 g1895 t1876.1 t1876.2.1 t1876.2.2.1 t1876.2.2.2.1, b6 g1895 A1896 ((t1876.2.2.2.2).length) n1898 t2249.2, r2 A1896 ((t1876.2.2.2.2).length) n1898 t2105.2.2]) (rest := [r2 A2288 t2109.length n2290 t2109, b8 g1863 a1854 a1855 0, b8 g1866 a1857 a1858 0])⟩ HA2315).mono ?_
                            rintro e_ w2316 ⟨rfl, hS⟩
                            replace HS : Aside0 (Sep (fps []) w [b7 g1894 g1895 t1876.1 t1876.2.1 t1876.2.2.1 t1876.2.2.2.1, b6 g1895 A1896 ((t1876.2.2.2.2).length) n1898 t2256.2, r2 A1896 ((t1876.2.2.2.2).length) n1898 t2105.2.2, r2 A2288 t2109.length n2290 t2109, b8 g1863 a1854 a1855 0, b8 g1866 a1857 a1858 0] w2316) := ⟨HS.out.call (l := [b7 g1894 g1895 t1876.1 t1876.2.1 t1876.2.2.1 t1876.2.2.2.1, b6 g1895 A1896 ((t1876.2.2.2.2).length) n1898 t2249.2, r2 A1896 ((t1876.2.2.2.2).length) n1898 t2105.2.2]) (rest := [r2 A2288 t2109.length n2290 t2109, b8 g1863 a1854 a1855 0, b8 g1866 a1857 a1858 0]) hS⟩
                            clear hS
                            by_cases c2317 : t2256.1 = 6
                            · have H := if_yes c2317 H
                              have c2317b0 : (t2256.1 == 6) = true := beq_iff_eq.mpr c2317
                              have c2317b1 : (t2256.1 != 6) = false := bne_eq_false_iff_eq.mpr c2317
                              clear c2317
                              by_cases c2318 : x2297 = 2
                              · have H := if_yes c2318 H
                                have c2318b0 : (x2297 == 2) = true := beq_iff_eq.mpr c2318
                                have c2318b1 : (x2297 != 2) = false := bne_eq_false_iff_eq.mpr c2318
                                clear c2318
                                go_wp2_with fail
                                obtain ⟨t2261, HA2319, H⟩ := bind_some H
                                refine (quitrentlaw05_begun.calls _ t2261 _ ⟨HS.out.begin (l := []) (rest := [b7 g1894 g1895 t1876.1 t1876.2.1 t1876.2.2.1 t1876.2.2.2.1, b6 g1895 A1896 ((t1876.2.2.2.2).length) n1898 t2256.2, r2 A1896 ((t1876.2.2.2.2).length) n1898 t2105.2.2, r2 A2288 t2109.length n2290 t2109, b8 g1863 a1854 a1855 0, b8 g1866 a1857 a1858 0])⟩ HA2319).mono ?_
                                rintro e_ w2320 ⟨rfl, hS⟩
                                replace HS : Aside0 (Sep (fps []) w [b7 g1894 g1895 t1876.1 t1876.2.1 t1876.2.2.1 t1876.2.2.2.1, b6 g1895 A1896 ((t1876.2.2.2.2).length) n1898 t2256.2, r2 A1896 ((t1876.2.2.2.2).length) n1898 t2105.2.2, r2 A2288 t2109.length n2290 t2109, b8 g1863 a1854 a1855 0, b8 g1866 a1857 a1858 0] w2320) := ⟨HS.out.call (l := []) (rest := [b7 g1894 g1895 t1876.1 t1876.2.1 t1876.2.2.1 t1876.2.2.2.1, b6 g1895 A1896 ((t1876.2.2.2.2).length) n1898 t2256.2, r2 A1896 ((t1876.2.2.2.2).length) n1898 t2105.2.2, r2 A2288 t2109.length n2290 t2109, b8 g1863 a1854 a1855 0, b8 g1866 a1857 a1858 0]) hS⟩
                                clear hS
                                replace HS : Aside0 (Sep (fps []) w [] w2320) := ⟨HS.out.sub (.cons _ (.cons _ (.cons _ (.cons _ (.cons _ (.cons _ .slnil))))))⟩
                                go_wp2_with fail
                                go_ret
                                rw [← some_eq H]
                                exact ⟨(by first | rfl | (simp [IntKind.wrap_u32]; done)), (HS.out).keep (l := []) (rest := [])⟩
                              · have H := if_no c2318 H
                                have c2318b0 : (x2297 == 2) = false := beq_eq_false_iff_ne.mpr c2318
                                have c2318b1 : (x2297 != 2) = true := bne_iff_ne.mpr c2318
                                clear c2318
                                replace HS : Aside0 (Sep (fps []) w [] w2316) := ⟨HS.out.sub (.cons _ (.cons _ (.cons _ (.cons _ (.cons _ (.cons _ .slnil))))))⟩
                                go_wp2_with fail
                                go_ret
                                rw [← some_eq H]
                                exact ⟨(by first | rfl | (simp [IntKind.wrap_u32]; done)), (HS.out).keep (l := []) (rest := [])⟩
                            · have H := if_no c2317 H
                              have c2317b0 : (t2256.1 == 6) = false := beq_eq_false_iff_ne.mpr c2317
                              have c2317b1 : (t2256.1 != 6) = true := bne_iff_ne.mpr c2317
                              clear c2317
                              replace HS : Aside0 (Sep (fps []) w [] w2316) := ⟨HS.out.sub (.cons _ (.cons _ (.cons _ (.cons _ (.cons _ (.cons _ .slnil))))))⟩
                              go_wp2_with fail
                              go_ret
                              rw [← some_eq H]
                              exact ⟨(by first | rfl | (simp [IntKind.wrap_u32]; done)), (HS.out).keep (l := []) (rest := [])⟩
                          · have H := if_no c2311 H
                            have c2311b0 : (t2249.1 == 5) = false := beq_eq_false_iff_ne.mpr c2311
                            have c2311b1 : (t2249.1 != 5) = true := bne_iff_ne.mpr c2311
                            clear c2311
                            replace HS : Aside0 (Sep (fps []) w [] w2310) := ⟨HS.out.sub (.cons _ (.cons _ (.cons _ (.cons _ (.cons _ (.cons _ .slnil))))))⟩
                            go_wp2_with fail
                            go_ret
                            rw [← some_eq H]
                            exact ⟨(by first | rfl | (simp [IntKind.wrap_u32]; done)), (HS.out).keep (l := []) (rest := [])⟩
                  · have H := if_no c2284 H
                    have c2284b0 : t2105.1 = false := by simpa using c2284
                    have c2284b1 : (!t2105.1) = true := by rw [c2284b0]; rfl
                    try rw [c2284b1]
                    clear c2284
                    go_wp2_with fail
                    obtain ⟨t2102, HA2337, H⟩ := bind_some H
                    refine (quitrentlaw05_begun.calls _ t2102 _ ⟨HS.out.begin (l := []) (rest := [b7 g1894 g1895 t1876.1 t1876.2.1 t1876.2.2.1 t1876.2.2.2.1, b6 g1895 A1896 ((t1876.2.2.2.2).length) n1898 t2105.2.1, r2 A1896 ((t1876.2.2.2.2).length) n1898 t2105.2.2, b8 g1863 a1854 a1855 0, b8 g1866 a1857 a1858 0])⟩ HA2337).mono ?_
                    rintro e_ w2338 ⟨rfl, hS⟩
                    replace HS : Aside0 (Sep (fps []) w [b7 g1894 g1895 t1876.1 t1876.2.1 t1876.2.2.1 t1876.2.2.2.1, b6 g1895 A1896 ((t1876.2.2.2.2).length) n1898 t2105.2.1, r2 A1896 ((t1876.2.2.2.2).length) n1898 t2105.2.2, b8 g1863 a1854 a1855 0, b8 g1866 a1857 a1858 0] w2338) := ⟨HS.out.call (l := []) (rest := [b7 g1894 g1895 t1876.1 t1876.2.1 t1876.2.2.1 t1876.2.2.2.1, b6 g1895 A1896 ((t1876.2.2.2.2).length) n1898 t2105.2.1, r2 A1896 ((t1876.2.2.2.2).length) n1898 t2105.2.2, b8 g1863 a1854 a1855 0, b8 g1866 a1857 a1858 0]) hS⟩
                    clear hS
                    replace HS : Aside0 (Sep (fps []) w [] w2338) := ⟨HS.out.sub (.cons _ (.cons _ (.cons _ (.cons _ (.cons _ .slnil)))))⟩
                    go_wp2_with fail
                    go_ret
                    rw [← some_eq H]
                    exact ⟨(by first | rfl | (simp [IntKind.wrap_u32]; done)), (HS.out).keep (l := []) (rest := [])⟩
              · have H := if_no c2093 H
                have c2093b0 : t2090.1 = false := by simpa using c2093
                have c2093b1 : (!t2090.1) = true := by rw [c2093b0]; rfl
                try rw [c2093b1]
                clear c2093
                go_wp2_with fail
                obtain ⟨t2102, HA2339, H⟩ := bind_some H
                refine (quitrentlaw05_begun.calls _ t2102 _ ⟨HS.out.begin (l := []) (rest := [b7 g1894 g1895 t1876.1 t1876.2.1 t1876.2.2.1 t1876.2.2.2.1, b6 g1895 A1896 ((t1876.2.2.2.2).length) n1898 t2090.2.1, r2 A1896 ((t1876.2.2.2.2).length) n1898 t2090.2.2, b8 g1863 a1854 a1855 0, b8 g1866 a1857 a1858 0])⟩ HA2339).mono ?_
                rintro e_ w2340 ⟨rfl, hS⟩
                replace HS : Aside0 (Sep (fps []) w [b7 g1894 g1895 t1876.1 t1876.2.1 t1876.2.2.1 t1876.2.2.2.1, b6 g1895 A1896 ((t1876.2.2.2.2).length) n1898 t2090.2.1, r2 A1896 ((t1876.2.2.2.2).length) n1898 t2090.2.2, b8 g1863 a1854 a1855 0, b8 g1866 a1857 a1858 0] w2340) := ⟨HS.out.call (l := []) (rest := [b7 g1894 g1895 t1876.1 t1876.2.1 t1876.2.2.1 t1876.2.2.2.1, b6 g1895 A1896 ((t1876.2.2.2.2).length) n1898 t2090.2.1, r2 A1896 ((t1876.2.2.2.2).length) n1898 t2090.2.2, b8 g1863 a1854 a1855 0, b8 g1866 a1857 a1858 0]) hS⟩
                clear hS
                replace HS : Aside0 (Sep (fps []) w [] w2340) := ⟨HS.out.sub (.cons _ (.cons _ (.cons _ (.cons _ (.cons _ .slnil)))))⟩
                go_wp2_with fail
                go_ret
                rw [← some_eq H]
                exact ⟨(by first | rfl | (simp [IntKind.wrap_u32]; done)), (HS.out).keep (l := []) (rest := [])⟩
            · have H := if_no c1922 H
              have c1922b0 : decide (a1857 < 2) = false := decide_eq_false c1922
              clear c1922
              have hc1908 : w1906.cell? ⟨g1863, 0, none⟩ = some (.int .u8 a1854) := blk_cellv (HS.out.at4) 0 rfl
              have hc1913 : w1906.cell? ⟨g1866, 0, none⟩ = some (.int .u8 a1857) := blk_cellv (HS.out.at5) 0 rfl
              replace HS : Aside0 (Sep (fps []) w [b7 g1894 g1895 t1876.1 t1876.2.1 t1876.2.2.1 t1876.2.2.2.1, b6 g1895 A1896 ((t1876.2.2.2.2).length) n1898 0, r2 A1896 ((t1876.2.2.2.2).length) n1898 t1876.2.2.2.2, b8 g1863 a1854 a1855 a1856, b8 g1866 a1857 a1858 a1859] w1906) := ⟨HS.out.sub (.cons_cons _ (.cons_cons _ (.cons_cons _ (.cons _ (.cons_cons _ (.cons_cons _ .slnil))))))⟩
              have hc1918 : w1906.cell? ⟨g1863, 2, none⟩ = some (.int .i64 a1856) := blk_cellv (HS.out.at3) 2 rfl
              have hz1919 : w1906.frozen? ⟨g1863, 2, none⟩ = false := blk_fz (HS.out.at3) 2
              go_wp2_with (first | ((with_reducible refine gate_store (t := 3) (p := 46) rfl ?_); refine store_event (w1 := (World.setCell w1906 ⟨g1863, 2, none⟩ (.int .i64 0))) rfl (t := 3) (p := 46) rfl rfl ?hr ?_; (case hr => first | (go_simp; done) | (go_simp; rfl)); intro w1920 hst; clear hc1908 hc1913 hc1918 hz1919; have hq0 : Sep (fps []) w [b7 g1894 g1895 t1876.1 t1876.2.1 t1876.2.2.1 t1876.2.2.2.1, b6 g1895 A1896 ((t1876.2.2.2.2).length) n1898 0, r2 A1896 ((t1876.2.2.2.2).length) n1898 t1876.2.2.2.2, b8 g1863 a1854 a1855 0, b8 g1866 a1857 a1858 a1859] (World.setCell w1906 ⟨g1863, 2, none⟩ (.int .i64 0)) := (HS.out).set1 (l1 := [b7 g1894 g1895 t1876.1 t1876.2.1 t1876.2.2.1 t1876.2.2.2.1, b6 g1895 A1896 ((t1876.2.2.2.2).length) n1898 0, r2 A1896 ((t1876.2.2.2.2).length) n1898 t1876.2.2.2.2]) (l2 := [b8 g1866 a1857 a1858 a1859]) 2 (.int .i64 0); replace HS : Aside0 (Sep (fps []) w [b7 g1894 g1895 t1876.1 t1876.2.1 t1876.2.2.1 t1876.2.2.2.1, b6 g1895 A1896 ((t1876.2.2.2.2).length) n1898 0, r2 A1896 ((t1876.2.2.2.2).length) n1898 t1876.2.2.2.2, b8 g1863 a1854 a1855 0, b8 g1866 a1857 a1858 a1859] w1920) := ⟨by rw [hst]; exact hq0⟩; clear hq0; clear hst; have hc1921 : w1920.cell? ⟨g1866, 0, none⟩ = some (.int .u8 a1857) := blk_cellv (HS.out.at4) 0 rfl; have hc2341 : w1920.cell? ⟨g1863, 0, none⟩ = some (.int .u8 a1854) := blk_cellv (HS.out.at3) 0 rfl; have hc2342 : w1920.cell? ⟨g1863, 1, none⟩ = some (.int .i64 a1855) := blk_cellv (HS.out.at3) 1 rfl; have hc2343 : w1920.cell? ⟨g1863, 2, none⟩ = some (.int .i64 0) := blk_cellv (HS.out.at3) 2 rfl))
              clear hc1921 hc2341 hc2342 hc2343
              obtain ⟨t2090, HA2344, H⟩ := bind_some H
              refine (quitrentlaw05_put.calls t1876.2.2.2.2 0 t1876.1 t1876.2.1 t1876.2.2.1 t1876.2.2.2.1 a1854 a1855 0 5 g1894 g1895 A1896 ((t1876.2.2.2.2).length) n1898 t2090 _ ⟨HS.out.begin (l := [b7 g1894 g1895 t1876.1 t1876.2.1 t1876.2.2.1 t1876.2.2.2.1, b6 g1895 A1896 ((t1876.2.2.2.2).length) n1898 0, r2 A1896 ((t1876.2.2.2.2).length) n1898 t1876.2.2.2.2]) (rest := [b8 g1863 a1854 a1855 0, b8 g1866 a1857 a1858 a1859])⟩ HA2344).mono ?_
              rintro e_ w2345 ⟨rfl, hS⟩
              replace HS : Aside0 (Sep (fps []) w [b7 g1894 g1895 t1876.1 t1876.2.1 t1876.2.2.1 t1876.2.2.2.1, b6 g1895 A1896 ((t1876.2.2.2.2).length) n1898 t2090.2.1, r2 A1896 ((t1876.2.2.2.2).length) n1898 t2090.2.2, b8 g1863 a1854 a1855 0, b8 g1866 a1857 a1858 a1859] w2345) := ⟨HS.out.call (l := [b7 g1894 g1895 t1876.1 t1876.2.1 t1876.2.2.1 t1876.2.2.2.1, b6 g1895 A1896 ((t1876.2.2.2.2).length) n1898 0, r2 A1896 ((t1876.2.2.2.2).length) n1898 t1876.2.2.2.2]) (rest := [b8 g1863 a1854 a1855 0, b8 g1866 a1857 a1858 a1859]) hS⟩
              clear hS
              by_cases c2346 : t2090.1 = true
              · have H := if_yes c2346 H
                have c2346b0 : t2090.1 = true := c2346
                have c2346b1 : (!t2090.1) = false := by rw [c2346b0]; rfl
                try rw [c2346b1]
                clear c2346
                by_cases c2353 : a1854 = a1857
                · have H := if_yes c2353 H
                  have c2353b0 : (a1854 == a1857) = true := beq_iff_eq.mpr c2353
                  have c2353b1 : (a1854 != a1857) = false := bne_eq_false_iff_eq.mpr c2353
                  clear c2353
                  by_cases c2354 : a1855 = a1858
                  · have H := if_yes c2354 H
                    have c2354b0 : (a1855 == a1858) = true := beq_iff_eq.mpr c2354
                    have c2354b1 : (a1855 != a1858) = false := bne_eq_false_iff_eq.mpr c2354
                    clear c2354
                    by_cases c2355 : 0 = a1859
                    · have H := if_yes c2355 H
                      have c2355b0 : (0 == a1859) = true := beq_iff_eq.mpr c2355
                      have c2355b1 : (0 != a1859) = false := bne_eq_false_iff_eq.mpr c2355
                      clear c2355
                      have hc2347 : w2345.cell? ⟨g1863, 0, none⟩ = some (.int .u8 a1854) := blk_cellv (HS.out.at3) 0 rfl
                      have hc2348 : w2345.cell? ⟨g1863, 1, none⟩ = some (.int .i64 a1855) := blk_cellv (HS.out.at3) 1 rfl
                      have hc2349 : w2345.cell? ⟨g1863, 2, none⟩ = some (.int .i64 0) := blk_cellv (HS.out.at3) 2 rfl
                      have hc2350 : w2345.cell? ⟨g1866, 0, none⟩ = some (.int .u8 a1857) := blk_cellv (HS.out.at4) 0 rfl
                      have hc2351 : w2345.cell? ⟨g1866, 1, none⟩ = some (.int .i64 a1858) := blk_cellv (HS.out.at4) 1 rfl
                      have hc2352 : w2345.cell? ⟨g1866, 2, none⟩ = some (.int .i64 a1859) := blk_cellv (HS.out.at4) 2 rfl
                      go_wp2_with fail
                      clear hc2347 hc2348 hc2349 hc2350 hc2351 hc2352
                      obtain ⟨t2102, HA2356, H⟩ := bind_some H
                      refine (quitrentlaw05_begun.calls _ t2102 _ ⟨HS.out.begin (l := []) (rest := [b7 g1894 g1895 t1876.1 t1876.2.1 t1876.2.2.1 t1876.2.2.2.1, b6 g1895 A1896 ((t1876.2.2.2.2).length) n1898 t2090.2.1, r2 A1896 ((t1876.2.2.2.2).length) n1898 t2090.2.2, b8 g1863 a1854 a1855 0, b8 g1866 a1857 a1858 a1859])⟩ HA2356).mono ?_
                      rintro e_ w2357 ⟨rfl, hS⟩
                      replace HS : Aside0 (Sep (fps []) w [b7 g1894 g1895 t1876.1 t1876.2.1 t1876.2.2.1 t1876.2.2.2.1, b6 g1895 A1896 ((t1876.2.2.2.2).length) n1898 t2090.2.1, r2 A1896 ((t1876.2.2.2.2).length) n1898 t2090.2.2, b8 g1863 a1854 a1855 0, b8 g1866 a1857 a1858 a1859] w2357) := ⟨HS.out.call (l := []) (rest := [b7 g1894 g1895 t1876.1 t1876.2.1 t1876.2.2.1 t1876.2.2.2.1, b6 g1895 A1896 ((t1876.2.2.2.2).length) n1898 t2090.2.1, r2 A1896 ((t1876.2.2.2.2).length) n1898 t2090.2.2, b8 g1863 a1854 a1855 0, b8 g1866 a1857 a1858 a1859]) hS⟩
                      clear hS
                      replace HS : Aside0 (Sep (fps []) w [] w2357) := ⟨HS.out.sub (.cons _ (.cons _ (.cons _ (.cons _ (.cons _ .slnil)))))⟩
                      go_wp2_with fail
                      go_ret
                      rw [← some_eq H]
                      exact ⟨(by first | rfl | (simp [IntKind.wrap_u32]; done)), (HS.out).keep (l := []) (rest := [])⟩
                    · have H := if_no c2355 H
                      have c2355b0 : (0 == a1859) = false := beq_eq_false_iff_ne.mpr c2355
                      have c2355b1 : (0 != a1859) = true := bne_iff_ne.mpr c2355
                      clear c2355
                      have hc2347 : w2345.cell? ⟨g1863, 0, none⟩ = some (.int .u8 a1854) := blk_cellv (HS.out.at3) 0 rfl
                      have hc2348 : w2345.cell? ⟨g1863, 1, none⟩ = some (.int .i64 a1855) := blk_cellv (HS.out.at3) 1 rfl
                      have hc2349 : w2345.cell? ⟨g1863, 2, none⟩ = some (.int .i64 0) := blk_cellv (HS.out.at3) 2 rfl
                      have hc2350 : w2345.cell? ⟨g1866, 0, none⟩ = some (.int .u8 a1857) := blk_cellv (HS.out.at4) 0 rfl
                      have hc2351 : w2345.cell? ⟨g1866, 1, none⟩ = some (.int .i64 a1858) := blk_cellv (HS.out.at4) 1 rfl
                      have hc2352 : w2345.cell? ⟨g1866, 2, none⟩ = some (.int .i64 a1859) := blk_cellv (HS.out.at4) 2 rfl
                      go_wp2_with fail
                      clear hc2347 hc2348 hc2349 hc2350 hc2351 hc2352
                      obtain ⟨t2105, HA2358, H⟩ := bind_some H
                      refine (quitrentlaw05_put.calls t2090.2.2 t2090.2.1 t1876.1 t1876.2.1 t1876.2.2.1 t1876.2.2.2.1 a1857 a1858 a1859 6 g1894 g1895 A1896 ((t1876.2.2.2.2).length) n1898 t2105 _ ⟨HS.out.begin (l := [b7 g1894 g1895 t1876.1 t1876.2.1 t1876.2.2.1 t1876.2.2.2.1, b6 g1895 A1896 ((t1876.2.2.2.2).length) n1898 t2090.2.1, r2 A1896 ((t1876.2.2.2.2).length) n1898 t2090.2.2]) (rest := [b8 g1863 a1854 a1855 0, b8 g1866 a1857 a1858 a1859])⟩ HA2358).mono ?_
                      rintro e_ w2359 ⟨rfl, hS⟩
                      replace HS : Aside0 (Sep (fps []) w [b7 g1894 g1895 t1876.1 t1876.2.1 t1876.2.2.1 t1876.2.2.2.1, b6 g1895 A1896 ((t1876.2.2.2.2).length) n1898 t2105.2.1, r2 A1896 ((t1876.2.2.2.2).length) n1898 t2105.2.2, b8 g1863 a1854 a1855 0, b8 g1866 a1857 a1858 a1859] w2359) := ⟨HS.out.call (l := [b7 g1894 g1895 t1876.1 t1876.2.1 t1876.2.2.1 t1876.2.2.2.1, b6 g1895 A1896 ((t1876.2.2.2.2).length) n1898 t2090.2.1, r2 A1896 ((t1876.2.2.2.2).length) n1898 t2090.2.2]) (rest := [b8 g1863 a1854 a1855 0, b8 g1866 a1857 a1858 a1859]) hS⟩
                      clear hS
                      by_cases c2360 : t2105.1 = true
                      · have H := if_yes c2360 H
                        have c2360b0 : t2105.1 = true := c2360
                        have c2360b1 : (!t2105.1) = false := by rw [c2360b0]; rfl
                        try rw [c2360b1]
                        clear c2360
                        go_wp2_with fail
                        obtain ⟨t2109, HA2361, H⟩ := bind_some H
                        refine (ground_Ground_Words.calls t2105.2.2 t2105.2.1 t1876.1 t1876.2.1 t1876.2.2.1 t1876.2.2.2.1 g1894 g1895 A1896 ((t1876.2.2.2.2).length) n1898 t2109 _ ⟨HS.out.begin (l := [b7 g1894 g1895 t1876.1 t1876.2.1 t1876.2.2.1 t1876.2.2.2.1, b6 g1895 A1896 ((t1876.2.2.2.2).length) n1898 t2105.2.1, r2 A1896 ((t1876.2.2.2.2).length) n1898 t2105.2.2]) (rest := [b8 g1863 a1854 a1855 0, b8 g1866 a1857 a1858 a1859])⟩ HA2361).mono ?_
                        rintro e_ w2362 ⟨A2364, m2365, n2366, rfl, hS⟩
                        replace HS : Aside0 (Sep (fps []) w [b7 g1894 g1895 t1876.1 t1876.2.1 t1876.2.2.1 t1876.2.2.2.1, b6 g1895 A1896 ((t1876.2.2.2.2).length) n1898 t2105.2.1, r2 A1896 ((t1876.2.2.2.2).length) n1898 t2105.2.2, r2 A2364 m2365 n2366 t2109, b8 g1863 a1854 a1855 0, b8 g1866 a1857 a1858 a1859] w2362) := ⟨HS.out.call (l := [b7 g1894 g1895 t1876.1 t1876.2.1 t1876.2.2.1 t1876.2.2.2.1, b6 g1895 A1896 ((t1876.2.2.2.2).length) n1898 t2105.2.1, r2 A1896 ((t1876.2.2.2.2).length) n1898 t2105.2.2]) (rest := [b8 g1863 a1854 a1855 0, b8 g1866 a1857 a1858 a1859]) hS⟩
                        clear hS
                        obtain rfl := (row_len (HS.out.at3)).symm
                        go_wp2_with fail
                        obtain ⟨o2369, AL2370, H⟩ := bind_some H
                        go_loopg [9, 70] k (fun kq v9 v70 wc => ∃ (x2373 : Int) (x2374 : Int), v9 = .int .i64 x2373 ∧ v70 = .int .i64 x2374 ∧ Aside0 (quitrentlaw05_GroundApart.lo2 kq t2109 x2373 x2374 = some o2369) ∧ Aside0 (Sep (fps []) w [b7 g1894 g1895 t1876.1 t1876.2.1 t1876.2.2.1 t1876.2.2.2.1, b6 g1895 A1896 ((t1876.2.2.2.2).length) n1898 t2105.2.1, r2 A1896 ((t1876.2.2.2.2).length) n1898 t2105.2.2, r2 A2364 t2109.length n2366 t2109, b8 g1863 a1854 a1855 0, b8 g1866 a1857 a1858 a1859] wc))
                        case atStart => exact ⟨(0), (0), (by first | rfl | (simp [IntKind.wrap_u32]; done)), (by first | rfl | (simp [IntKind.wrap_u32]; done)), AL2370, ⟨HS.out⟩⟩
                        case round =>
                          clear AL2370 HS
                          obtain ⟨x2373, x2374, rfl, rfl, AL2370, HS⟩ := hrel
                          obtain ⟨w2371, rfl⟩ : ∃ x : World, x = wr := ⟨_, rfl⟩
                          cases gk with
                          | zero => exact absurd AL2370.out (by simp [quitrentlaw05_GroundApart.lo2])
                          | succ k2372 =>
                            have AL0 := AL2370.out
                            rw [quitrentlaw05_GroundApart.lo2] at AL0
                            clear AL2370
                            have AL2370 := Aside0.mk AL0
                            clear AL0
                            by_cases c2375 : x2374 < (t2109.length : Int)
                            · have AL2370 := if_yes c2375 AL2370
                              have c2375b0 : decide (x2374 < (t2109.length : Int)) = true := decide_eq_true c2375
                              clear c2375
                              by_cases c2376 : 0 ≤ x2374
                              · have AL2370 := if_yes c2376 AL2370
                                have c2376b0 : decide (0 ≤ x2374) = true := decide_eq_true c2376
                                have c2376p : (0 ≤ x2374) = True := eq_true c2376
                                clear c2376
                                have ip2377 : (x2374 < (t2109.length : Int)) = True := eq_true (of_decide_eq_true c2375b0)
                                by_cases c2381 : (rd t2109 x2374) = 0
                                · have AL2370 := if_yes c2381 AL2370
                                  have c2381b0 : ((rd t2109 x2374) == 0) = true := beq_iff_eq.mpr c2381
                                  have c2381b1 : ((rd t2109 x2374) != 0) = false := bne_eq_false_iff_eq.mpr c2381
                                  clear c2381
                                  obtain ⟨g2378, ea⟩ := row_at (HS.out.at3) (by have := (of_decide_eq_true c2376b0); have := (of_decide_eq_true c2375b0); omega); cases ea
                                  have hx2379 := C_at_int (row_Ci (HS.out.at3)) x2374 (of_decide_eq_true c2376b0) (of_decide_eq_true c2375b0)
                                  have hx2380 : w2371.cell? ⟨g2378, (x2374).toNat, none⟩ = some (.int .u32 (rd t2109 x2374)) := (row_get 0 (HS.out.at3) x2374 (of_decide_eq_true c2376b0) (of_decide_eq_true c2375b0)).1
                                  go_wp2_with fail
                                  clear hx2379 hx2380
                                  go_roundg k2372
                                  case measure => exact Nat.lt_succ_self _
                                  case rel => exact ⟨(x2373), (wrap64 (x2374 + 1)), (by first | rfl | (simp [IntKind.wrap_u32]; done)), (by first | rfl | (simp [IntKind.wrap_u32]; done)), Aside0.mk AL2370.out, ⟨(((((((HS.out).front 5 (by simp)).front 5 (by simp)).front 5 (by simp)).front 5 (by simp)).front 5 (by simp)).front 5 (by simp)).keep (l := [b7 g1894 g1895 t1876.1 t1876.2.1 t1876.2.2.1 t1876.2.2.2.1, b6 g1895 A1896 ((t1876.2.2.2.2).length) n1898 t2105.2.1, r2 A1896 ((t1876.2.2.2.2).length) n1898 t2105.2.2, r2 (some ⟨g2378, 0, none⟩) t2109.length n2366 t2109, b8 g1863 a1854 a1855 0, b8 g1866 a1857 a1858 a1859]) (rest := [])⟩⟩
                                · have AL2370 := if_no c2381 AL2370
                                  have c2381b0 : ((rd t2109 x2374) == 0) = false := beq_eq_false_iff_ne.mpr c2381
                                  have c2381b1 : ((rd t2109 x2374) != 0) = true := bne_iff_ne.mpr c2381
                                  clear c2381
                                  obtain ⟨g2378, ea⟩ := row_at (HS.out.at3) (by have := (of_decide_eq_true c2376b0); have := (of_decide_eq_true c2375b0); omega); cases ea
                                  have hx2379 := C_at_int (row_Ci (HS.out.at3)) x2374 (of_decide_eq_true c2376b0) (of_decide_eq_true c2375b0)
                                  have hx2380 : w2371.cell? ⟨g2378, (x2374).toNat, none⟩ = some (.int .u32 (rd t2109 x2374)) := (row_get 0 (HS.out.at3) x2374 (of_decide_eq_true c2376b0) (of_decide_eq_true c2375b0)).1
                                  go_wp2_with fail
                                  clear hx2379 hx2380
                                  go_roundg k2372
                                  case measure => exact Nat.lt_succ_self _
                                  case rel => exact ⟨(wrap64 (x2373 + 1)), (wrap64 (x2374 + 1)), (by first | rfl | (simp [IntKind.wrap_u32]; done)), (by first | rfl | (simp [IntKind.wrap_u32]; done)), Aside0.mk AL2370.out, ⟨(((((((HS.out).front 5 (by simp)).front 5 (by simp)).front 5 (by simp)).front 5 (by simp)).front 5 (by simp)).front 5 (by simp)).keep (l := [b7 g1894 g1895 t1876.1 t1876.2.1 t1876.2.2.1 t1876.2.2.2.1, b6 g1895 A1896 ((t1876.2.2.2.2).length) n1898 t2105.2.1, r2 A1896 ((t1876.2.2.2.2).length) n1898 t2105.2.2, r2 (some ⟨g2378, 0, none⟩) t2109.length n2366 t2109, b8 g1863 a1854 a1855 0, b8 g1866 a1857 a1858 a1859]) (rest := [])⟩⟩
                              · have AL2370 := if_no c2376 AL2370
                                have c2376b0 : decide (0 ≤ x2374) = false := decide_eq_false c2376
                                clear c2376
                                exact (none_no AL2370).elim
                            · have AL2370 := if_no c2375 AL2370
                              have c2375b0 : decide (x2374 < (t2109.length : Int)) = false := decide_eq_false c2375
                              clear c2375
                              have ho := some_eq AL2370
                              subst ho
                              clear AL2370
                              have hc2382 : w2371.cell? ⟨g1863, 0, none⟩ = some (.int .u8 a1854) := blk_cellv (HS.out.at4) 0 rfl
                              have hc2383 : w2371.cell? ⟨g1863, 1, none⟩ = some (.int .i64 a1855) := blk_cellv (HS.out.at4) 1 rfl
                              have hc2384 : w2371.cell? ⟨g1863, 2, none⟩ = some (.int .i64 0) := blk_cellv (HS.out.at4) 2 rfl
                              go_wp2_with fail
                              clear hc2382 hc2383 hc2384
                              obtain ⟨t2249, HA2385, H⟩ := bind_some H
                              refine (quitrentlaw05_get.calls t2105.2.2 t2105.2.1 t1876.1 t1876.2.1 t1876.2.2.1 t1876.2.2.2.1 a1854 a1855 0 g1894 g1895 A1896 ((t1876.2.2.2.2).length) n1898 t2249 _ ⟨HS.out.begin (l := [b7 g1894 g1895 t1876.1 t1876.2.1 t1876.2.2.1 t1876.2.2.2.1, b6 g1895 A1896 ((t1876.2.2.2.2).length) n1898 t2105.2.1, r2 A1896 ((t1876.2.2.2.2).length) n1898 t2105.2.2]) (rest := [r2 A2364 t2109.length n2366 t2109, b8 g1863 a1854 a1855 0, b8 g1866 a1857 a1858 a1859])⟩ HA2385).mono ?_
                              rintro e_ w2386 ⟨rfl, hS⟩
                              replace HS : Aside0 (Sep (fps []) w [b7 g1894 g1895 t1876.1 t1876.2.1 t1876.2.2.1 t1876.2.2.2.1, b6 g1895 A1896 ((t1876.2.2.2.2).length) n1898 t2249.2, r2 A1896 ((t1876.2.2.2.2).length) n1898 t2105.2.2, r2 A2364 t2109.length n2366 t2109, b8 g1863 a1854 a1855 0, b8 g1866 a1857 a1858 a1859] w2386) := ⟨HS.out.call (l := [b7 g1894 g1895 t1876.1 t1876.2.1 t1876.2.2.1 t1876.2.2.2.1, b6 g1895 A1896 ((t1876.2.2.2.2).length) n1898 t2105.2.1, r2 A1896 ((t1876.2.2.2.2).length) n1898 t2105.2.2]) (rest := [r2 A2364 t2109.length n2366 t2109, b8 g1863 a1854 a1855 0, b8 g1866 a1857 a1858 a1859]) hS⟩
                              clear hS
                              by_cases c2387 : t2249.1 = 5
                              · have H := if_yes c2387 H
                                have c2387b0 : (t2249.1 == 5) = true := beq_iff_eq.mpr c2387
                                have c2387b1 : (t2249.1 != 5) = false := bne_eq_false_iff_eq.mpr c2387
                                clear c2387
                                have hc2388 : w2386.cell? ⟨g1866, 0, none⟩ = some (.int .u8 a1857) := blk_cellv (HS.out.at5) 0 rfl
                                have hc2389 : w2386.cell? ⟨g1866, 1, none⟩ = some (.int .i64 a1858) := blk_cellv (HS.out.at5) 1 rfl
                                have hc2390 : w2386.cell? ⟨g1866, 2, none⟩ = some (.int .i64 a1859) := blk_cellv (HS.out.at5) 2 rfl
                                go_wp2_with fail
                                clear hc2388 hc2389 hc2390
                                obtain ⟨t2256, HA2391, H⟩ := bind_some H
                                refine (quitrentlaw05_get.calls t2105.2.2 t2249.2 t1876.1 t1876.2.1 t1876.2.2.1 t1876.2.2.2.1 a1857 a1858 a1859 g1894 g1895 A1896 ((t1876.2.2.2.2).length) n1898 t2256 _ ⟨HS.out.begin (l := [b7 g1894 g1895 t1876.1 t1876.2.1 t1876.2.2.1 t1876.2.2.2.1, b6 g1895 A1896 ((t1876.2.2.2.2).length) n1898 t2249.2, r2 A1896 ((t1876.2.2.2.2).length) n1898 t2105.2.2]) (rest := [r2 A2364 t2109.length n2366 t2109, b8 g1863 a1854 a1855 0, b8 g1866 a1857 a1858 a1859])⟩ HA2391).mono ?_
                                rintro e_ w2392 ⟨rfl, hS⟩
                                replace HS : Aside0 (Sep (fps []) w [b7 g1894 g1895 t1876.1 t1876.2.1 t1876.2.2.1 t1876.2.2.2.1, b6 g1895 A1896 ((t1876.2.2.2.2).length) n1898 t2256.2, r2 A1896 ((t1876.2.2.2.2).length) n1898 t2105.2.2, r2 A2364 t2109.length n2366 t2109, b8 g1863 a1854 a1855 0, b8 g1866 a1857 a1858 a1859] w2392) := ⟨HS.out.call (l := [b7 g1894 g1895 t1876.1 t1876.2.1 t1876.2.2.1 t1876.2.2.2.1, b6 g1895 A1896 ((t1876.2.2.2.2).length) n1898 t2249.2, r2 A1896 ((t1876.2.2.2.2).length) n1898 t2105.2.2]) (rest := [r2 A2364 t2109.length n2366 t2109, b8 g1863 a1854 a1855 0, b8 g1866 a1857 a1858 a1859]) hS⟩
                                clear hS
                                by_cases c2393 : t2256.1 = 6
                                · have H := if_yes c2393 H
                                  have c2393b0 : (t2256.1 == 6) = true := beq_iff_eq.mpr c2393
                                  have c2393b1 : (t2256.1 != 6) = false := bne_eq_false_iff_eq.mpr c2393
                                  clear c2393
                                  by_cases c2394 : x2373 = 2
                                  · have H := if_yes c2394 H
                                    have c2394b0 : (x2373 == 2) = true := beq_iff_eq.mpr c2394
                                    have c2394b1 : (x2373 != 2) = false := bne_eq_false_iff_eq.mpr c2394
                                    clear c2394
                                    go_wp2_with fail
                                    obtain ⟨t2261, HA2395, H⟩ := bind_some H
                                    refine (quitrentlaw05_begun.calls _ t2261 _ ⟨HS.out.begin (l := []) (rest := [b7 g1894 g1895 t1876.1 t1876.2.1 t1876.2.2.1 t1876.2.2.2.1, b6 g1895 A1896 ((t1876.2.2.2.2).length) n1898 t2256.2, r2 A1896 ((t1876.2.2.2.2).length) n1898 t2105.2.2, r2 A2364 t2109.length n2366 t2109, b8 g1863 a1854 a1855 0, b8 g1866 a1857 a1858 a1859])⟩ HA2395).mono ?_
                                    rintro e_ w2396 ⟨rfl, hS⟩
                                    replace HS : Aside0 (Sep (fps []) w [b7 g1894 g1895 t1876.1 t1876.2.1 t1876.2.2.1 t1876.2.2.2.1, b6 g1895 A1896 ((t1876.2.2.2.2).length) n1898 t2256.2, r2 A1896 ((t1876.2.2.2.2).length) n1898 t2105.2.2, r2 A2364 t2109.length n2366 t2109, b8 g1863 a1854 a1855 0, b8 g1866 a1857 a1858 a1859] w2396) := ⟨HS.out.call (l := []) (rest := [b7 g1894 g1895 t1876.1 t1876.2.1 t1876.2.2.1 t1876.2.2.2.1, b6 g1895 A1896 ((t1876.2.2.2.2).length) n1898 t2256.2, r2 A1896 ((t1876.2.2.2.2).length) n1898 t2105.2.2, r2 A2364 t2109.length n2366 t2109, b8 g1863 a1854 a1855 0, b8 g1866 a1857 a1858 a1859]) hS⟩
                                    clear hS
                                    replace HS : Aside0 (Sep (fps []) w [] w2396) := ⟨HS.out.sub (.cons _ (.cons _ (.cons _ (.cons _ (.cons _ (.cons _ .slnil))))))⟩
                                    go_wp2_with fail
                                    go_ret
                                    rw [← some_eq H]
                                    exact ⟨(by first | rfl | (simp [IntKind.wrap_u32]; done)), (HS.out).keep (l := []) (rest := [])⟩
                                  · have H := if_no c2394 H
                                    have c2394b0 : (x2373 == 2) = false := beq_eq_false_iff_ne.mpr c2394
                                    have c2394b1 : (x2373 != 2) = true := bne_iff_ne.mpr c2394
                                    clear c2394
                                    replace HS : Aside0 (Sep (fps []) w [] w2392) := ⟨HS.out.sub (.cons _ (.cons _ (.cons _ (.cons _ (.cons _ (.cons _ .slnil))))))⟩
                                    go_wp2_with fail
                                    go_ret
                                    rw [← some_eq H]
                                    exact ⟨(by first | rfl | (simp [IntKind.wrap_u32]; done)), (HS.out).keep (l := []) (rest := [])⟩
                                · have H := if_no c2393 H
                                  have c2393b0 : (t2256.1 == 6) = false := beq_eq_false_iff_ne.mpr c2393
                                  have c2393b1 : (t2256.1 != 6) = true := bne_iff_ne.mpr c2393
                                  clear c2393
                                  replace HS : Aside0 (Sep (fps []) w [] w2392) := ⟨HS.out.sub (.cons _ (.cons _ (.cons _ (.cons _ (.cons _ (.cons _ .slnil))))))⟩
                                  go_wp2_with fail
                                  go_ret
                                  rw [← some_eq H]
                                  exact ⟨(by first | rfl | (simp [IntKind.wrap_u32]; done)), (HS.out).keep (l := []) (rest := [])⟩
                              · have H := if_no c2387 H
                                have c2387b0 : (t2249.1 == 5) = false := beq_eq_false_iff_ne.mpr c2387
                                have c2387b1 : (t2249.1 != 5) = true := bne_iff_ne.mpr c2387
                                clear c2387
                                replace HS : Aside0 (Sep (fps []) w [] w2386) := ⟨HS.out.sub (.cons _ (.cons _ (.cons _ (.cons _ (.cons _ (.cons _ .slnil))))))⟩
                                go_wp2_with fail
                                go_ret
                                rw [← some_eq H]
                                exact ⟨(by first | rfl | (simp [IntKind.wrap_u32]; done)), (HS.out).keep (l := []) (rest := [])⟩
                      · have H := if_no c2360 H
                        have c2360b0 : t2105.1 = false := by simpa using c2360
                        have c2360b1 : (!t2105.1) = true := by rw [c2360b0]; rfl
                        try rw [c2360b1]
                        clear c2360
                        go_wp2_with fail
                        obtain ⟨t2102, HA2413, H⟩ := bind_some H
                        refine (quitrentlaw05_begun.calls _ t2102 _ ⟨HS.out.begin (l := []) (rest := [b7 g1894 g1895 t1876.1 t1876.2.1 t1876.2.2.1 t1876.2.2.2.1, b6 g1895 A1896 ((t1876.2.2.2.2).length) n1898 t2105.2.1, r2 A1896 ((t1876.2.2.2.2).length) n1898 t2105.2.2, b8 g1863 a1854 a1855 0, b8 g1866 a1857 a1858 a1859])⟩ HA2413).mono ?_
                        rintro e_ w2414 ⟨rfl, hS⟩
                        replace HS : Aside0 (Sep (fps []) w [b7 g1894 g1895 t1876.1 t1876.2.1 t1876.2.2.1 t1876.2.2.2.1, b6 g1895 A1896 ((t1876.2.2.2.2).length) n1898 t2105.2.1, r2 A1896 ((t1876.2.2.2.2).length) n1898 t2105.2.2, b8 g1863 a1854 a1855 0, b8 g1866 a1857 a1858 a1859] w2414) := ⟨HS.out.call (l := []) (rest := [b7 g1894 g1895 t1876.1 t1876.2.1 t1876.2.2.1 t1876.2.2.2.1, b6 g1895 A1896 ((t1876.2.2.2.2).length) n1898 t2105.2.1, r2 A1896 ((t1876.2.2.2.2).length) n1898 t2105.2.2, b8 g1863 a1854 a1855 0, b8 g1866 a1857 a1858 a1859]) hS⟩
                        clear hS
                        replace HS : Aside0 (Sep (fps []) w [] w2414) := ⟨HS.out.sub (.cons _ (.cons _ (.cons _ (.cons _ (.cons _ .slnil)))))⟩
                        go_wp2_with fail
                        go_ret
                        rw [← some_eq H]
                        exact ⟨(by first | rfl | (simp [IntKind.wrap_u32]; done)), (HS.out).keep (l := []) (rest := [])⟩
                  · have H := if_no c2354 H
                    have c2354b0 : (a1855 == a1858) = false := beq_eq_false_iff_ne.mpr c2354
                    have c2354b1 : (a1855 != a1858) = true := bne_iff_ne.mpr c2354
                    clear c2354
                    have hc2347 : w2345.cell? ⟨g1863, 0, none⟩ = some (.int .u8 a1854) := blk_cellv (HS.out.at3) 0 rfl
                    have hc2348 : w2345.cell? ⟨g1863, 1, none⟩ = some (.int .i64 a1855) := blk_cellv (HS.out.at3) 1 rfl
                    have hc2349 : w2345.cell? ⟨g1863, 2, none⟩ = some (.int .i64 0) := blk_cellv (HS.out.at3) 2 rfl
                    have hc2350 : w2345.cell? ⟨g1866, 0, none⟩ = some (.int .u8 a1857) := blk_cellv (HS.out.at4) 0 rfl
                    have hc2351 : w2345.cell? ⟨g1866, 1, none⟩ = some (.int .i64 a1858) := blk_cellv (HS.out.at4) 1 rfl
                    have hc2352 : w2345.cell? ⟨g1866, 2, none⟩ = some (.int .i64 a1859) := blk_cellv (HS.out.at4) 2 rfl
                    go_wp2_with fail
                    clear hc2347 hc2348 hc2349 hc2350 hc2351 hc2352
                    obtain ⟨t2105, HA2415, H⟩ := bind_some H
                    refine (quitrentlaw05_put.calls t2090.2.2 t2090.2.1 t1876.1 t1876.2.1 t1876.2.2.1 t1876.2.2.2.1 a1857 a1858 a1859 6 g1894 g1895 A1896 ((t1876.2.2.2.2).length) n1898 t2105 _ ⟨HS.out.begin (l := [b7 g1894 g1895 t1876.1 t1876.2.1 t1876.2.2.1 t1876.2.2.2.1, b6 g1895 A1896 ((t1876.2.2.2.2).length) n1898 t2090.2.1, r2 A1896 ((t1876.2.2.2.2).length) n1898 t2090.2.2]) (rest := [b8 g1863 a1854 a1855 0, b8 g1866 a1857 a1858 a1859])⟩ HA2415).mono ?_
                    rintro e_ w2416 ⟨rfl, hS⟩
                    replace HS : Aside0 (Sep (fps []) w [b7 g1894 g1895 t1876.1 t1876.2.1 t1876.2.2.1 t1876.2.2.2.1, b6 g1895 A1896 ((t1876.2.2.2.2).length) n1898 t2105.2.1, r2 A1896 ((t1876.2.2.2.2).length) n1898 t2105.2.2, b8 g1863 a1854 a1855 0, b8 g1866 a1857 a1858 a1859] w2416) := ⟨HS.out.call (l := [b7 g1894 g1895 t1876.1 t1876.2.1 t1876.2.2.1 t1876.2.2.2.1, b6 g1895 A1896 ((t1876.2.2.2.2).length) n1898 t2090.2.1, r2 A1896 ((t1876.2.2.2.2).length) n1898 t2090.2.2]) (rest := [b8 g1863 a1854 a1855 0, b8 g1866 a1857 a1858 a1859]) hS⟩
                    clear hS
                    by_cases c2417 : t2105.1 = true
                    · have H := if_yes c2417 H
                      have c2417b0 : t2105.1 = true := c2417
                      have c2417b1 : (!t2105.1) = false := by rw [c2417b0]; rfl
                      try rw [c2417b1]
                      clear c2417
                      go_wp2_with fail
                      obtain ⟨t2109, HA2418, H⟩ := bind_some H
                      refine (ground_Ground_Words.calls t2105.2.2 t2105.2.1 t1876.1 t1876.2.1 t1876.2.2.1 t1876.2.2.2.1 g1894 g1895 A1896 ((t1876.2.2.2.2).length) n1898 t2109 _ ⟨HS.out.begin (l := [b7 g1894 g1895 t1876.1 t1876.2.1 t1876.2.2.1 t1876.2.2.2.1, b6 g1895 A1896 ((t1876.2.2.2.2).length) n1898 t2105.2.1, r2 A1896 ((t1876.2.2.2.2).length) n1898 t2105.2.2]) (rest := [b8 g1863 a1854 a1855 0, b8 g1866 a1857 a1858 a1859])⟩ HA2418).mono ?_
                      rintro e_ w2419 ⟨A2421, m2422, n2423, rfl, hS⟩
                      replace HS : Aside0 (Sep (fps []) w [b7 g1894 g1895 t1876.1 t1876.2.1 t1876.2.2.1 t1876.2.2.2.1, b6 g1895 A1896 ((t1876.2.2.2.2).length) n1898 t2105.2.1, r2 A1896 ((t1876.2.2.2.2).length) n1898 t2105.2.2, r2 A2421 m2422 n2423 t2109, b8 g1863 a1854 a1855 0, b8 g1866 a1857 a1858 a1859] w2419) := ⟨HS.out.call (l := [b7 g1894 g1895 t1876.1 t1876.2.1 t1876.2.2.1 t1876.2.2.2.1, b6 g1895 A1896 ((t1876.2.2.2.2).length) n1898 t2105.2.1, r2 A1896 ((t1876.2.2.2.2).length) n1898 t2105.2.2]) (rest := [b8 g1863 a1854 a1855 0, b8 g1866 a1857 a1858 a1859]) hS⟩
                      clear hS
                      obtain rfl := (row_len (HS.out.at3)).symm
                      go_wp2_with fail
                      obtain ⟨o2426, AL2427, H⟩ := bind_some H
                      go_loopg [9, 70] k (fun kq v9 v70 wc => ∃ (x2430 : Int) (x2431 : Int), v9 = .int .i64 x2430 ∧ v70 = .int .i64 x2431 ∧ Aside0 (quitrentlaw05_GroundApart.lo3 kq t2109 x2430 x2431 = some o2426) ∧ Aside0 (Sep (fps []) w [b7 g1894 g1895 t1876.1 t1876.2.1 t1876.2.2.1 t1876.2.2.2.1, b6 g1895 A1896 ((t1876.2.2.2.2).length) n1898 t2105.2.1, r2 A1896 ((t1876.2.2.2.2).length) n1898 t2105.2.2, r2 A2421 t2109.length n2423 t2109, b8 g1863 a1854 a1855 0, b8 g1866 a1857 a1858 a1859] wc))
                      case atStart => exact ⟨(0), (0), (by first | rfl | (simp [IntKind.wrap_u32]; done)), (by first | rfl | (simp [IntKind.wrap_u32]; done)), AL2427, ⟨HS.out⟩⟩
                      case round =>
                        clear AL2427 HS
                        obtain ⟨x2430, x2431, rfl, rfl, AL2427, HS⟩ := hrel
                        obtain ⟨w2428, rfl⟩ : ∃ x : World, x = wr := ⟨_, rfl⟩
                        cases gk with
                        | zero => exact absurd AL2427.out (by simp [quitrentlaw05_GroundApart.lo3])
                        | succ k2429 =>
                          have AL0 := AL2427.out
                          rw [quitrentlaw05_GroundApart.lo3] at AL0
                          clear AL2427
                          have AL2427 := Aside0.mk AL0
                          clear AL0
                          by_cases c2432 : x2431 < (t2109.length : Int)
                          · have AL2427 := if_yes c2432 AL2427
                            have c2432b0 : decide (x2431 < (t2109.length : Int)) = true := decide_eq_true c2432
                            clear c2432
                            by_cases c2433 : 0 ≤ x2431
                            · have AL2427 := if_yes c2433 AL2427
                              have c2433b0 : decide (0 ≤ x2431) = true := decide_eq_true c2433
                              have c2433p : (0 ≤ x2431) = True := eq_true c2433
                              clear c2433
                              have ip2434 : (x2431 < (t2109.length : Int)) = True := eq_true (of_decide_eq_true c2432b0)
                              by_cases c2438 : (rd t2109 x2431) = 0
                              · have AL2427 := if_yes c2438 AL2427
                                have c2438b0 : ((rd t2109 x2431) == 0) = true := beq_iff_eq.mpr c2438
                                have c2438b1 : ((rd t2109 x2431) != 0) = false := bne_eq_false_iff_eq.mpr c2438
                                clear c2438
                                obtain ⟨g2435, ea⟩ := row_at (HS.out.at3) (by have := (of_decide_eq_true c2433b0); have := (of_decide_eq_true c2432b0); omega); cases ea
                                have hx2436 := C_at_int (row_Ci (HS.out.at3)) x2431 (of_decide_eq_true c2433b0) (of_decide_eq_true c2432b0)
                                have hx2437 : w2428.cell? ⟨g2435, (x2431).toNat, none⟩ = some (.int .u32 (rd t2109 x2431)) := (row_get 0 (HS.out.at3) x2431 (of_decide_eq_true c2433b0) (of_decide_eq_true c2432b0)).1
                                go_wp2_with fail
                                clear hx2436 hx2437
                                go_roundg k2429
                                case measure => exact Nat.lt_succ_self _
                                case rel => exact ⟨(x2430), (wrap64 (x2431 + 1)), (by first | rfl | (simp [IntKind.wrap_u32]; done)), (by first | rfl | (simp [IntKind.wrap_u32]; done)), Aside0.mk AL2427.out, ⟨(((((((HS.out).front 5 (by simp)).front 5 (by simp)).front 5 (by simp)).front 5 (by simp)).front 5 (by simp)).front 5 (by simp)).keep (l := [b7 g1894 g1895 t1876.1 t1876.2.1 t1876.2.2.1 t1876.2.2.2.1, b6 g1895 A1896 ((t1876.2.2.2.2).length) n1898 t2105.2.1, r2 A1896 ((t1876.2.2.2.2).length) n1898 t2105.2.2, r2 (some ⟨g2435, 0, none⟩) t2109.length n2423 t2109, b8 g1863 a1854 a1855 0, b8 g1866 a1857 a1858 a1859]) (rest := [])⟩⟩
                              · have AL2427 := if_no c2438 AL2427
                                have c2438b0 : ((rd t2109 x2431) == 0) = false := beq_eq_false_iff_ne.mpr c2438
                                have c2438b1 : ((rd t2109 x2431) != 0) = true := bne_iff_ne.mpr c2438
                                clear c2438
                                obtain ⟨g2435, ea⟩ := row_at (HS.out.at3) (by have := (of_decide_eq_true c2433b0); have := (of_decide_eq_true c2432b0); omega); cases ea
                                have hx2436 := C_at_int (row_Ci (HS.out.at3)) x2431 (of_decide_eq_true c2433b0) (of_decide_eq_true c2432b0)
                                have hx2437 : w2428.cell? ⟨g2435, (x2431).toNat, none⟩ = some (.int .u32 (rd t2109 x2431)) := (row_get 0 (HS.out.at3) x2431 (of_decide_eq_true c2433b0) (of_decide_eq_true c2432b0)).1
                                go_wp2_with fail
                                clear hx2436 hx2437
                                go_roundg k2429
                                case measure => exact Nat.lt_succ_self _
                                case rel => exact ⟨(wrap64 (x2430 + 1)), (wrap64 (x2431 + 1)), (by first | rfl | (simp [IntKind.wrap_u32]; done)), (by first | rfl | (simp [IntKind.wrap_u32]; done)), Aside0.mk AL2427.out, ⟨(((((((HS.out).front 5 (by simp)).front 5 (by simp)).front 5 (by simp)).front 5 (by simp)).front 5 (by simp)).front 5 (by simp)).keep (l := [b7 g1894 g1895 t1876.1 t1876.2.1 t1876.2.2.1 t1876.2.2.2.1, b6 g1895 A1896 ((t1876.2.2.2.2).length) n1898 t2105.2.1, r2 A1896 ((t1876.2.2.2.2).length) n1898 t2105.2.2, r2 (some ⟨g2435, 0, none⟩) t2109.length n2423 t2109, b8 g1863 a1854 a1855 0, b8 g1866 a1857 a1858 a1859]) (rest := [])⟩⟩
                            · have AL2427 := if_no c2433 AL2427
                              have c2433b0 : decide (0 ≤ x2431) = false := decide_eq_false c2433
                              clear c2433
                              exact (none_no AL2427).elim
                          · have AL2427 := if_no c2432 AL2427
                            have c2432b0 : decide (x2431 < (t2109.length : Int)) = false := decide_eq_false c2432
                            clear c2432
                            have ho := some_eq AL2427
                            subst ho
                            clear AL2427
                            have hc2439 : w2428.cell? ⟨g1863, 0, none⟩ = some (.int .u8 a1854) := blk_cellv (HS.out.at4) 0 rfl
                            have hc2440 : w2428.cell? ⟨g1863, 1, none⟩ = some (.int .i64 a1855) := blk_cellv (HS.out.at4) 1 rfl
                            have hc2441 : w2428.cell? ⟨g1863, 2, none⟩ = some (.int .i64 0) := blk_cellv (HS.out.at4) 2 rfl
                            go_wp2_with fail
                            clear hc2439 hc2440 hc2441
                            obtain ⟨t2249, HA2442, H⟩ := bind_some H
                            refine (quitrentlaw05_get.calls t2105.2.2 t2105.2.1 t1876.1 t1876.2.1 t1876.2.2.1 t1876.2.2.2.1 a1854 a1855 0 g1894 g1895 A1896 ((t1876.2.2.2.2).length) n1898 t2249 _ ⟨HS.out.begin (l := [b7 g1894 g1895 t1876.1 t1876.2.1 t1876.2.2.1 t1876.2.2.2.1, b6 g1895 A1896 ((t1876.2.2.2.2).length) n1898 t2105.2.1, r2 A1896 ((t1876.2.2.2.2).length) n1898 t2105.2.2]) (rest := [r2 A2421 t2109.length n2423 t2109, b8 g1863 a1854 a1855 0, b8 g1866 a1857 a1858 a1859])⟩ HA2442).mono ?_
                            rintro e_ w2443 ⟨rfl, hS⟩
                            replace HS : Aside0 (Sep (fps []) w [b7 g1894 g1895 t1876.1 t1876.2.1 t1876.2.2.1 t1876.2.2.2.1, b6 g1895 A1896 ((t1876.2.2.2.2).length) n1898 t2249.2, r2 A1896 ((t1876.2.2.2.2).length) n1898 t2105.2.2, r2 A2421 t2109.length n2423 t2109, b8 g1863 a1854 a1855 0, b8 g1866 a1857 a1858 a1859] w2443) := ⟨HS.out.call (l := [b7 g1894 g1895 t1876.1 t1876.2.1 t1876.2.2.1 t1876.2.2.2.1, b6 g1895 A1896 ((t1876.2.2.2.2).length) n1898 t2105.2.1, r2 A1896 ((t1876.2.2.2.2).length) n1898 t2105.2.2]) (rest := [r2 A2421 t2109.length n2423 t2109, b8 g1863 a1854 a1855 0, b8 g1866 a1857 a1858 a1859]) hS⟩
                            clear hS
                            by_cases c2444 : t2249.1 = 5
                            · have H := if_yes c2444 H
                              have c2444b0 : (t2249.1 == 5) = true := beq_iff_eq.mpr c2444
                              have c2444b1 : (t2249.1 != 5) = false := bne_eq_false_iff_eq.mpr c2444
                              clear c2444
                              have hc2445 : w2443.cell? ⟨g1866, 0, none⟩ = some (.int .u8 a1857) := blk_cellv (HS.out.at5) 0 rfl
                              have hc2446 : w2443.cell? ⟨g1866, 1, none⟩ = some (.int .i64 a1858) := blk_cellv (HS.out.at5) 1 rfl
                              have hc2447 : w2443.cell? ⟨g1866, 2, none⟩ = some (.int .i64 a1859) := blk_cellv (HS.out.at5) 2 rfl
                              go_wp2_with fail
                              clear hc2445 hc2446 hc2447
                              obtain ⟨t2256, HA2448, H⟩ := bind_some H
                              refine (quitrentlaw05_get.calls t2105.2.2 t2249.2 t1876.1 t1876.2.1 t1876.2.2.1 t1876.2.2.2.1 a1857 a1858 a1859 g1894 g1895 A1896 ((t1876.2.2.2.2).length) n1898 t2256 _ ⟨HS.out.begin (l := [b7 g1894 g1895 t1876.1 t1876.2.1 t1876.2.2.1 t1876.2.2.2.1, b6 g1895 A1896 ((t1876.2.2.2.2).length) n1898 t2249.2, r2 A1896 ((t1876.2.2.2.2).length) n1898 t2105.2.2]) (rest := [r2 A2421 t2109.length n2423 t2109, b8 g1863 a1854 a1855 0, b8 g1866 a1857 a1858 a1859])⟩ HA2448).mono ?_
                              rintro e_ w2449 ⟨rfl, hS⟩
                              replace HS : Aside0 (Sep (fps []) w [b7 g1894 g1895 t1876.1 t1876.2.1 t1876.2.2.1 t1876.2.2.2.1, b6 g1895 A1896 ((t1876.2.2.2.2).length) n1898 t2256.2, r2 A1896 ((t1876.2.2.2.2).length) n1898 t2105.2.2, r2 A2421 t2109.length n2423 t2109, b8 g1863 a1854 a1855 0, b8 g1866 a1857 a1858 a1859] w2449) := ⟨HS.out.call (l := [b7 g1894 g1895 t1876.1 t1876.2.1 t1876.2.2.1 t1876.2.2.2.1, b6 g1895 A1896 ((t1876.2.2.2.2).length) n1898 t2249.2, r2 A1896 ((t1876.2.2.2.2).length) n1898 t2105.2.2]) (rest := [r2 A2421 t2109.length n2423 t2109, b8 g1863 a1854 a1855 0, b8 g1866 a1857 a1858 a1859]) hS⟩
                              clear hS
                              by_cases c2450 : t2256.1 = 6
                              · have H := if_yes c2450 H
                                have c2450b0 : (t2256.1 == 6) = true := beq_iff_eq.mpr c2450
                                have c2450b1 : (t2256.1 != 6) = false := bne_eq_false_iff_eq.mpr c2450
                                clear c2450
                                by_cases c2451 : x2430 = 2
                                · have H := if_yes c2451 H
                                  have c2451b0 : (x2430 == 2) = true := beq_iff_eq.mpr c2451
                                  have c2451b1 : (x2430 != 2) = false := bne_eq_false_iff_eq.mpr c2451
                                  clear c2451
                                  go_wp2_with fail
                                  obtain ⟨t2261, HA2452, H⟩ := bind_some H
                                  refine (quitrentlaw05_begun.calls _ t2261 _ ⟨HS.out.begin (l := []) (rest := [b7 g1894 g1895 t1876.1 t1876.2.1 t1876.2.2.1 t1876.2.2.2.1, b6 g1895 A1896 ((t1876.2.2.2.2).length) n1898 t2256.2, r2 A1896 ((t1876.2.2.2.2).length) n1898 t2105.2.2, r2 A2421 t2109.length n2423 t2109, b8 g1863 a1854 a1855 0, b8 g1866 a1857 a1858 a1859])⟩ HA2452).mono ?_
                                  rintro e_ w2453 ⟨rfl, hS⟩
                                  replace HS : Aside0 (Sep (fps []) w [b7 g1894 g1895 t1876.1 t1876.2.1 t1876.2.2.1 t1876.2.2.2.1, b6 g1895 A1896 ((t1876.2.2.2.2).length) n1898 t2256.2, r2 A1896 ((t1876.2.2.2.2).length) n1898 t2105.2.2, r2 A2421 t2109.length n2423 t2109, b8 g1863 a1854 a1855 0, b8 g1866 a1857 a1858 a1859] w2453) := ⟨HS.out.call (l := []) (rest := [b7 g1894 g1895 t1876.1 t1876.2.1 t1876.2.2.1 t1876.2.2.2.1, b6 g1895 A1896 ((t1876.2.2.2.2).length) n1898 t2256.2, r2 A1896 ((t1876.2.2.2.2).length) n1898 t2105.2.2, r2 A2421 t2109.length n2423 t2109, b8 g1863 a1854 a1855 0, b8 g1866 a1857 a1858 a1859]) hS⟩
                                  clear hS
                                  replace HS : Aside0 (Sep (fps []) w [] w2453) := ⟨HS.out.sub (.cons _ (.cons _ (.cons _ (.cons _ (.cons _ (.cons _ .slnil))))))⟩
                                  go_wp2_with fail
                                  go_ret
                                  rw [← some_eq H]
                                  exact ⟨(by first | rfl | (simp [IntKind.wrap_u32]; done)), (HS.out).keep (l := []) (rest := [])⟩
                                · have H := if_no c2451 H
                                  have c2451b0 : (x2430 == 2) = false := beq_eq_false_iff_ne.mpr c2451
                                  have c2451b1 : (x2430 != 2) = true := bne_iff_ne.mpr c2451
                                  clear c2451
                                  replace HS : Aside0 (Sep (fps []) w [] w2449) := ⟨HS.out.sub (.cons _ (.cons _ (.cons _ (.cons _ (.cons _ (.cons _ .slnil))))))⟩
                                  go_wp2_with fail
                                  go_ret
                                  rw [← some_eq H]
                                  exact ⟨(by first | rfl | (simp [IntKind.wrap_u32]; done)), (HS.out).keep (l := []) (rest := [])⟩
                              · have H := if_no c2450 H
                                have c2450b0 : (t2256.1 == 6) = false := beq_eq_false_iff_ne.mpr c2450
                                have c2450b1 : (t2256.1 != 6) = true := bne_iff_ne.mpr c2450
                                clear c2450
                                replace HS : Aside0 (Sep (fps []) w [] w2449) := ⟨HS.out.sub (.cons _ (.cons _ (.cons _ (.cons _ (.cons _ (.cons _ .slnil))))))⟩
                                go_wp2_with fail
                                go_ret
                                rw [← some_eq H]
                                exact ⟨(by first | rfl | (simp [IntKind.wrap_u32]; done)), (HS.out).keep (l := []) (rest := [])⟩
                            · have H := if_no c2444 H
                              have c2444b0 : (t2249.1 == 5) = false := beq_eq_false_iff_ne.mpr c2444
                              have c2444b1 : (t2249.1 != 5) = true := bne_iff_ne.mpr c2444
                              clear c2444
                              replace HS : Aside0 (Sep (fps []) w [] w2443) := ⟨HS.out.sub (.cons _ (.cons _ (.cons _ (.cons _ (.cons _ (.cons _ .slnil))))))⟩
                              go_wp2_with fail
                              go_ret
                              rw [← some_eq H]
                              exact ⟨(by first | rfl | (simp [IntKind.wrap_u32]; done)), (HS.out).keep (l := []) (rest := [])⟩
                    · have H := if_no c2417 H
                      have c2417b0 : t2105.1 = false := by simpa using c2417
                      have c2417b1 : (!t2105.1) = true := by rw [c2417b0]; rfl
                      try rw [c2417b1]
                      clear c2417
                      go_wp2_with fail
                      obtain ⟨t2102, HA2470, H⟩ := bind_some H
                      refine (quitrentlaw05_begun.calls _ t2102 _ ⟨HS.out.begin (l := []) (rest := [b7 g1894 g1895 t1876.1 t1876.2.1 t1876.2.2.1 t1876.2.2.2.1, b6 g1895 A1896 ((t1876.2.2.2.2).length) n1898 t2105.2.1, r2 A1896 ((t1876.2.2.2.2).length) n1898 t2105.2.2, b8 g1863 a1854 a1855 0, b8 g1866 a1857 a1858 a1859])⟩ HA2470).mono ?_
                      rintro e_ w2471 ⟨rfl, hS⟩
                      replace HS : Aside0 (Sep (fps []) w [b7 g1894 g1895 t1876.1 t1876.2.1 t1876.2.2.1 t1876.2.2.2.1, b6 g1895 A1896 ((t1876.2.2.2.2).length) n1898 t2105.2.1, r2 A1896 ((t1876.2.2.2.2).length) n1898 t2105.2.2, b8 g1863 a1854 a1855 0, b8 g1866 a1857 a1858 a1859] w2471) := ⟨HS.out.call (l := []) (rest := [b7 g1894 g1895 t1876.1 t1876.2.1 t1876.2.2.1 t1876.2.2.2.1, b6 g1895 A1896 ((t1876.2.2.2.2).length) n1898 t2105.2.1, r2 A1896 ((t1876.2.2.2.2).length) n1898 t2105.2.2, b8 g1863 a1854 a1855 0, b8 g1866 a1857 a1858 a1859]) hS⟩
                      clear hS
                      replace HS : Aside0 (Sep (fps []) w [] w2471) := ⟨HS.out.sub (.cons _ (.cons _ (.cons _ (.cons _ (.cons _ .slnil)))))⟩
                      go_wp2_with fail
                      go_ret
                      rw [← some_eq H]
                      exact ⟨(by first | rfl | (simp [IntKind.wrap_u32]; done)), (HS.out).keep (l := []) (rest := [])⟩
                · have H := if_no c2353 H
                  have c2353b0 : (a1854 == a1857) = false := beq_eq_false_iff_ne.mpr c2353
                  have c2353b1 : (a1854 != a1857) = true := bne_iff_ne.mpr c2353
                  clear c2353
                  have hc2347 : w2345.cell? ⟨g1863, 0, none⟩ = some (.int .u8 a1854) := blk_cellv (HS.out.at3) 0 rfl
                  have hc2348 : w2345.cell? ⟨g1863, 1, none⟩ = some (.int .i64 a1855) := blk_cellv (HS.out.at3) 1 rfl
                  have hc2349 : w2345.cell? ⟨g1863, 2, none⟩ = some (.int .i64 0) := blk_cellv (HS.out.at3) 2 rfl
                  have hc2350 : w2345.cell? ⟨g1866, 0, none⟩ = some (.int .u8 a1857) := blk_cellv (HS.out.at4) 0 rfl
                  have hc2351 : w2345.cell? ⟨g1866, 1, none⟩ = some (.int .i64 a1858) := blk_cellv (HS.out.at4) 1 rfl
                  have hc2352 : w2345.cell? ⟨g1866, 2, none⟩ = some (.int .i64 a1859) := blk_cellv (HS.out.at4) 2 rfl
                  go_wp2_with fail
                  clear hc2347 hc2348 hc2349 hc2350 hc2351 hc2352
                  obtain ⟨t2105, HA2472, H⟩ := bind_some H
                  refine (quitrentlaw05_put.calls t2090.2.2 t2090.2.1 t1876.1 t1876.2.1 t1876.2.2.1 t1876.2.2.2.1 a1857 a1858 a1859 6 g1894 g1895 A1896 ((t1876.2.2.2.2).length) n1898 t2105 _ ⟨HS.out.begin (l := [b7 g1894 g1895 t1876.1 t1876.2.1 t1876.2.2.1 t1876.2.2.2.1, b6 g1895 A1896 ((t1876.2.2.2.2).length) n1898 t2090.2.1, r2 A1896 ((t1876.2.2.2.2).length) n1898 t2090.2.2]) (rest := [b8 g1863 a1854 a1855 0, b8 g1866 a1857 a1858 a1859])⟩ HA2472).mono ?_
                  rintro e_ w2473 ⟨rfl, hS⟩
                  replace HS : Aside0 (Sep (fps []) w [b7 g1894 g1895 t1876.1 t1876.2.1 t1876.2.2.1 t1876.2.2.2.1, b6 g1895 A1896 ((t1876.2.2.2.2).length) n1898 t2105.2.1, r2 A1896 ((t1876.2.2.2.2).length) n1898 t2105.2.2, b8 g1863 a1854 a1855 0, b8 g1866 a1857 a1858 a1859] w2473) := ⟨HS.out.call (l := [b7 g1894 g1895 t1876.1 t1876.2.1 t1876.2.2.1 t1876.2.2.2.1, b6 g1895 A1896 ((t1876.2.2.2.2).length) n1898 t2090.2.1, r2 A1896 ((t1876.2.2.2.2).length) n1898 t2090.2.2]) (rest := [b8 g1863 a1854 a1855 0, b8 g1866 a1857 a1858 a1859]) hS⟩
                  clear hS
                  by_cases c2474 : t2105.1 = true
                  · have H := if_yes c2474 H
                    have c2474b0 : t2105.1 = true := c2474
                    have c2474b1 : (!t2105.1) = false := by rw [c2474b0]; rfl
                    try rw [c2474b1]
                    clear c2474
                    go_wp2_with fail
                    obtain ⟨t2109, HA2475, H⟩ := bind_some H
                    refine (ground_Ground_Words.calls t2105.2.2 t2105.2.1 t1876.1 t1876.2.1 t1876.2.2.1 t1876.2.2.2.1 g1894 g1895 A1896 ((t1876.2.2.2.2).length) n1898 t2109 _ ⟨HS.out.begin (l := [b7 g1894 g1895 t1876.1 t1876.2.1 t1876.2.2.1 t1876.2.2.2.1, b6 g1895 A1896 ((t1876.2.2.2.2).length) n1898 t2105.2.1, r2 A1896 ((t1876.2.2.2.2).length) n1898 t2105.2.2]) (rest := [b8 g1863 a1854 a1855 0, b8 g1866 a1857 a1858 a1859])⟩ HA2475).mono ?_
                    rintro e_ w2476 ⟨A2478, m2479, n2480, rfl, hS⟩
                    replace HS : Aside0 (Sep (fps []) w [b7 g1894 g1895 t1876.1 t1876.2.1 t1876.2.2.1 t1876.2.2.2.1, b6 g1895 A1896 ((t1876.2.2.2.2).length) n1898 t2105.2.1, r2 A1896 ((t1876.2.2.2.2).length) n1898 t2105.2.2, r2 A2478 m2479 n2480 t2109, b8 g1863 a1854 a1855 0, b8 g1866 a1857 a1858 a1859] w2476) := ⟨HS.out.call (l := [b7 g1894 g1895 t1876.1 t1876.2.1 t1876.2.2.1 t1876.2.2.2.1, b6 g1895 A1896 ((t1876.2.2.2.2).length) n1898 t2105.2.1, r2 A1896 ((t1876.2.2.2.2).length) n1898 t2105.2.2]) (rest := [b8 g1863 a1854 a1855 0, b8 g1866 a1857 a1858 a1859]) hS⟩
                    clear hS
                    obtain rfl := (row_len (HS.out.at3)).symm
                    go_wp2_with fail
                    obtain ⟨o2483, AL2484, H⟩ := bind_some H
                    go_loopg [9, 70] k (fun kq v9 v70 wc => ∃ (x2487 : Int) (x2488 : Int), v9 = .int .i64 x2487 ∧ v70 = .int .i64 x2488 ∧ Aside0 (quitrentlaw05_GroundApart.lo4 kq t2109 x2487 x2488 = some o2483) ∧ Aside0 (Sep (fps []) w [b7 g1894 g1895 t1876.1 t1876.2.1 t1876.2.2.1 t1876.2.2.2.1, b6 g1895 A1896 ((t1876.2.2.2.2).length) n1898 t2105.2.1, r2 A1896 ((t1876.2.2.2.2).length) n1898 t2105.2.2, r2 A2478 t2109.length n2480 t2109, b8 g1863 a1854 a1855 0, b8 g1866 a1857 a1858 a1859] wc))
                    case atStart => exact ⟨(0), (0), (by first | rfl | (simp [IntKind.wrap_u32]; done)), (by first | rfl | (simp [IntKind.wrap_u32]; done)), AL2484, ⟨HS.out⟩⟩
                    case round =>
                      clear AL2484 HS
                      obtain ⟨x2487, x2488, rfl, rfl, AL2484, HS⟩ := hrel
                      obtain ⟨w2485, rfl⟩ : ∃ x : World, x = wr := ⟨_, rfl⟩
                      cases gk with
                      | zero => exact absurd AL2484.out (by simp [quitrentlaw05_GroundApart.lo4])
                      | succ k2486 =>
                        have AL0 := AL2484.out
                        rw [quitrentlaw05_GroundApart.lo4] at AL0
                        clear AL2484
                        have AL2484 := Aside0.mk AL0
                        clear AL0
                        by_cases c2489 : x2488 < (t2109.length : Int)
                        · have AL2484 := if_yes c2489 AL2484
                          have c2489b0 : decide (x2488 < (t2109.length : Int)) = true := decide_eq_true c2489
                          clear c2489
                          by_cases c2490 : 0 ≤ x2488
                          · have AL2484 := if_yes c2490 AL2484
                            have c2490b0 : decide (0 ≤ x2488) = true := decide_eq_true c2490
                            have c2490p : (0 ≤ x2488) = True := eq_true c2490
                            clear c2490
                            have ip2491 : (x2488 < (t2109.length : Int)) = True := eq_true (of_decide_eq_true c2489b0)
                            by_cases c2495 : (rd t2109 x2488) = 0
                            · have AL2484 := if_yes c2495 AL2484
                              have c2495b0 : ((rd t2109 x2488) == 0) = true := beq_iff_eq.mpr c2495
                              have c2495b1 : ((rd t2109 x2488) != 0) = false := bne_eq_false_iff_eq.mpr c2495
                              clear c2495
                              obtain ⟨g2492, ea⟩ := row_at (HS.out.at3) (by have := (of_decide_eq_true c2490b0); have := (of_decide_eq_true c2489b0); omega); cases ea
                              have hx2493 := C_at_int (row_Ci (HS.out.at3)) x2488 (of_decide_eq_true c2490b0) (of_decide_eq_true c2489b0)
                              have hx2494 : w2485.cell? ⟨g2492, (x2488).toNat, none⟩ = some (.int .u32 (rd t2109 x2488)) := (row_get 0 (HS.out.at3) x2488 (of_decide_eq_true c2490b0) (of_decide_eq_true c2489b0)).1
                              go_wp2_with fail
                              clear hx2493 hx2494
                              go_roundg k2486
                              case measure => exact Nat.lt_succ_self _
                              case rel => exact ⟨(x2487), (wrap64 (x2488 + 1)), (by first | rfl | (simp [IntKind.wrap_u32]; done)), (by first | rfl | (simp [IntKind.wrap_u32]; done)), Aside0.mk AL2484.out, ⟨(((((((HS.out).front 5 (by simp)).front 5 (by simp)).front 5 (by simp)).front 5 (by simp)).front 5 (by simp)).front 5 (by simp)).keep (l := [b7 g1894 g1895 t1876.1 t1876.2.1 t1876.2.2.1 t1876.2.2.2.1, b6 g1895 A1896 ((t1876.2.2.2.2).length) n1898 t2105.2.1, r2 A1896 ((t1876.2.2.2.2).length) n1898 t2105.2.2, r2 (some ⟨g2492, 0, none⟩) t2109.length n2480 t2109, b8 g1863 a1854 a1855 0, b8 g1866 a1857 a1858 a1859]) (rest := [])⟩⟩
                            · have AL2484 := if_no c2495 AL2484
                              have c2495b0 : ((rd t2109 x2488) == 0) = false := beq_eq_false_iff_ne.mpr c2495
                              have c2495b1 : ((rd t2109 x2488) != 0) = true := bne_iff_ne.mpr c2495
                              clear c2495
                              obtain ⟨g2492, ea⟩ := row_at (HS.out.at3) (by have := (of_decide_eq_true c2490b0); have := (of_decide_eq_true c2489b0); omega); cases ea
                              have hx2493 := C_at_int (row_Ci (HS.out.at3)) x2488 (of_decide_eq_true c2490b0) (of_decide_eq_true c2489b0)
                              have hx2494 : w2485.cell? ⟨g2492, (x2488).toNat, none⟩ = some (.int .u32 (rd t2109 x2488)) := (row_get 0 (HS.out.at3) x2488 (of_decide_eq_true c2490b0) (of_decide_eq_true c2489b0)).1
                              go_wp2_with fail
                              clear hx2493 hx2494
                              go_roundg k2486
                              case measure => exact Nat.lt_succ_self _
                              case rel => exact ⟨(wrap64 (x2487 + 1)), (wrap64 (x2488 + 1)), (by first | rfl | (simp [IntKind.wrap_u32]; done)), (by first | rfl | (simp [IntKind.wrap_u32]; done)), Aside0.mk AL2484.out, ⟨(((((((HS.out).front 5 (by simp)).front 5 (by simp)).front 5 (by simp)).front 5 (by simp)).front 5 (by simp)).front 5 (by simp)).keep (l := [b7 g1894 g1895 t1876.1 t1876.2.1 t1876.2.2.1 t1876.2.2.2.1, b6 g1895 A1896 ((t1876.2.2.2.2).length) n1898 t2105.2.1, r2 A1896 ((t1876.2.2.2.2).length) n1898 t2105.2.2, r2 (some ⟨g2492, 0, none⟩) t2109.length n2480 t2109, b8 g1863 a1854 a1855 0, b8 g1866 a1857 a1858 a1859]) (rest := [])⟩⟩
                          · have AL2484 := if_no c2490 AL2484
                            have c2490b0 : decide (0 ≤ x2488) = false := decide_eq_false c2490
                            clear c2490
                            exact (none_no AL2484).elim
                        · have AL2484 := if_no c2489 AL2484
                          have c2489b0 : decide (x2488 < (t2109.length : Int)) = false := decide_eq_false c2489
                          clear c2489
                          have ho := some_eq AL2484
                          subst ho
                          clear AL2484
                          have hc2496 : w2485.cell? ⟨g1863, 0, none⟩ = some (.int .u8 a1854) := blk_cellv (HS.out.at4) 0 rfl
                          have hc2497 : w2485.cell? ⟨g1863, 1, none⟩ = some (.int .i64 a1855) := blk_cellv (HS.out.at4) 1 rfl
                          have hc2498 : w2485.cell? ⟨g1863, 2, none⟩ = some (.int .i64 0) := blk_cellv (HS.out.at4) 2 rfl
                          go_wp2_with fail
                          clear hc2496 hc2497 hc2498
                          obtain ⟨t2249, HA2499, H⟩ := bind_some H
                          refine (quitrentlaw05_get.calls t2105.2.2 t2105.2.1 t1876.1 t1876.2.1 t1876.2.2.1 t1876.2.2.2.1 a1854 a1855 0 g1894 g1895 A1896 ((t1876.2.2.2.2).length) n1898 t2249 _ ⟨HS.out.begin (l := [b7 g1894 g1895 t1876.1 t1876.2.1 t1876.2.2.1 t1876.2.2.2.1, b6 g1895 A1896 ((t1876.2.2.2.2).length) n1898 t2105.2.1, r2 A1896 ((t1876.2.2.2.2).length) n1898 t2105.2.2]) (rest := [r2 A2478 t2109.length n2480 t2109, b8 g1863 a1854 a1855 0, b8 g1866 a1857 a1858 a1859])⟩ HA2499).mono ?_
                          rintro e_ w2500 ⟨rfl, hS⟩
                          replace HS : Aside0 (Sep (fps []) w [b7 g1894 g1895 t1876.1 t1876.2.1 t1876.2.2.1 t1876.2.2.2.1, b6 g1895 A1896 ((t1876.2.2.2.2).length) n1898 t2249.2, r2 A1896 ((t1876.2.2.2.2).length) n1898 t2105.2.2, r2 A2478 t2109.length n2480 t2109, b8 g1863 a1854 a1855 0, b8 g1866 a1857 a1858 a1859] w2500) := ⟨HS.out.call (l := [b7 g1894 g1895 t1876.1 t1876.2.1 t1876.2.2.1 t1876.2.2.2.1, b6 g1895 A1896 ((t1876.2.2.2.2).length) n1898 t2105.2.1, r2 A1896 ((t1876.2.2.2.2).length) n1898 t2105.2.2]) (rest := [r2 A2478 t2109.length n2480 t2109, b8 g1863 a1854 a1855 0, b8 g1866 a1857 a1858 a1859]) hS⟩
                          clear hS
                          by_cases c2501 : t2249.1 = 5
                          · have H := if_yes c2501 H
                            have c2501b0 : (t2249.1 == 5) = true := beq_iff_eq.mpr c2501
                            have c2501b1 : (t2249.1 != 5) = false := bne_eq_false_iff_eq.mpr c2501
                            clear c2501
                            have hc2502 : w2500.cell? ⟨g1866, 0, none⟩ = some (.int .u8 a1857) := blk_cellv (HS.out.at5) 0 rfl
                            have hc2503 : w2500.cell? ⟨g1866, 1, none⟩ = some (.int .i64 a1858) := blk_cellv (HS.out.at5) 1 rfl
                            have hc2504 : w2500.cell? ⟨g1866, 2, none⟩ = some (.int .i64 a1859) := blk_cellv (HS.out.at5) 2 rfl
                            go_wp2_with fail
                            clear hc2502 hc2503 hc2504
                            obtain ⟨t2256, HA2505, H⟩ := bind_some H
                            refine (quitrentlaw05_get.calls t2105.2.2 t2249.2 t1876.1 t1876.2.1 t1876.2.2.1 t1876.2.2.2.1 a1857 a1858 a1859 g1894 g1895 A1896 ((t1876.2.2.2.2).length) n1898 t2256 _ ⟨HS.out.begin (l := [b7 g1894 g1895 t1876.1 t1876.2.1 t1876.2.2.1 t1876.2.2.2.1, b6 g1895 A1896 ((t1876.2.2.2.2).length) n1898 t2249.2, r2 A1896 ((t1876.2.2.2.2).length) n1898 t2105.2.2]) (rest := [r2 A2478 t2109.length n2480 t2109, b8 g1863 a1854 a1855 0, b8 g1866 a1857 a1858 a1859])⟩ HA2505).mono ?_
                            rintro e_ w2506 ⟨rfl, hS⟩
                            replace HS : Aside0 (Sep (fps []) w [b7 g1894 g1895 t1876.1 t1876.2.1 t1876.2.2.1 t1876.2.2.2.1, b6 g1895 A1896 ((t1876.2.2.2.2).length) n1898 t2256.2, r2 A1896 ((t1876.2.2.2.2).length) n1898 t2105.2.2, r2 A2478 t2109.length n2480 t2109, b8 g1863 a1854 a1855 0, b8 g1866 a1857 a1858 a1859] w2506) := ⟨HS.out.call (l := [b7 g1894 g1895 t1876.1 t1876.2.1 t1876.2.2.1 t1876.2.2.2.1, b6 g1895 A1896 ((t1876.2.2.2.2).length) n1898 t2249.2, r2 A1896 ((t1876.2.2.2.2).length) n1898 t2105.2.2]) (rest := [r2 A2478 t2109.length n2480 t2109, b8 g1863 a1854 a1855 0, b8 g1866 a1857 a1858 a1859]) hS⟩
                            clear hS
                            by_cases c2507 : t2256.1 = 6
                            · have H := if_yes c2507 H
                              have c2507b0 : (t2256.1 == 6) = true := beq_iff_eq.mpr c2507
                              have c2507b1 : (t2256.1 != 6) = false := bne_eq_false_iff_eq.mpr c2507
                              clear c2507
                              by_cases c2508 : x2487 = 2
                              · have H := if_yes c2508 H
                                have c2508b0 : (x2487 == 2) = true := beq_iff_eq.mpr c2508
                                have c2508b1 : (x2487 != 2) = false := bne_eq_false_iff_eq.mpr c2508
                                clear c2508
                                go_wp2_with fail
                                obtain ⟨t2261, HA2509, H⟩ := bind_some H
                                refine (quitrentlaw05_begun.calls _ t2261 _ ⟨HS.out.begin (l := []) (rest := [b7 g1894 g1895 t1876.1 t1876.2.1 t1876.2.2.1 t1876.2.2.2.1, b6 g1895 A1896 ((t1876.2.2.2.2).length) n1898 t2256.2, r2 A1896 ((t1876.2.2.2.2).length) n1898 t2105.2.2, r2 A2478 t2109.length n2480 t2109, b8 g1863 a1854 a1855 0, b8 g1866 a1857 a1858 a1859])⟩ HA2509).mono ?_
                                rintro e_ w2510 ⟨rfl, hS⟩
                                replace HS : Aside0 (Sep (fps []) w [b7 g1894 g1895 t1876.1 t1876.2.1 t1876.2.2.1 t1876.2.2.2.1, b6 g1895 A1896 ((t1876.2.2.2.2).length) n1898 t2256.2, r2 A1896 ((t1876.2.2.2.2).length) n1898 t2105.2.2, r2 A2478 t2109.length n2480 t2109, b8 g1863 a1854 a1855 0, b8 g1866 a1857 a1858 a1859] w2510) := ⟨HS.out.call (l := []) (rest := [b7 g1894 g1895 t1876.1 t1876.2.1 t1876.2.2.1 t1876.2.2.2.1, b6 g1895 A1896 ((t1876.2.2.2.2).length) n1898 t2256.2, r2 A1896 ((t1876.2.2.2.2).length) n1898 t2105.2.2, r2 A2478 t2109.length n2480 t2109, b8 g1863 a1854 a1855 0, b8 g1866 a1857 a1858 a1859]) hS⟩
                                clear hS
                                replace HS : Aside0 (Sep (fps []) w [] w2510) := ⟨HS.out.sub (.cons _ (.cons _ (.cons _ (.cons _ (.cons _ (.cons _ .slnil))))))⟩
                                go_wp2_with fail
                                go_ret
                                rw [← some_eq H]
                                exact ⟨(by first | rfl | (simp [IntKind.wrap_u32]; done)), (HS.out).keep (l := []) (rest := [])⟩
                              · have H := if_no c2508 H
                                have c2508b0 : (x2487 == 2) = false := beq_eq_false_iff_ne.mpr c2508
                                have c2508b1 : (x2487 != 2) = true := bne_iff_ne.mpr c2508
                                clear c2508
                                replace HS : Aside0 (Sep (fps []) w [] w2506) := ⟨HS.out.sub (.cons _ (.cons _ (.cons _ (.cons _ (.cons _ (.cons _ .slnil))))))⟩
                                go_wp2_with fail
                                go_ret
                                rw [← some_eq H]
                                exact ⟨(by first | rfl | (simp [IntKind.wrap_u32]; done)), (HS.out).keep (l := []) (rest := [])⟩
                            · have H := if_no c2507 H
                              have c2507b0 : (t2256.1 == 6) = false := beq_eq_false_iff_ne.mpr c2507
                              have c2507b1 : (t2256.1 != 6) = true := bne_iff_ne.mpr c2507
                              clear c2507
                              replace HS : Aside0 (Sep (fps []) w [] w2506) := ⟨HS.out.sub (.cons _ (.cons _ (.cons _ (.cons _ (.cons _ (.cons _ .slnil))))))⟩
                              go_wp2_with fail
                              go_ret
                              rw [← some_eq H]
                              exact ⟨(by first | rfl | (simp [IntKind.wrap_u32]; done)), (HS.out).keep (l := []) (rest := [])⟩
                          · have H := if_no c2501 H
                            have c2501b0 : (t2249.1 == 5) = false := beq_eq_false_iff_ne.mpr c2501
                            have c2501b1 : (t2249.1 != 5) = true := bne_iff_ne.mpr c2501
                            clear c2501
                            replace HS : Aside0 (Sep (fps []) w [] w2500) := ⟨HS.out.sub (.cons _ (.cons _ (.cons _ (.cons _ (.cons _ (.cons _ .slnil))))))⟩
                            go_wp2_with fail
                            go_ret
                            rw [← some_eq H]
                            exact ⟨(by first | rfl | (simp [IntKind.wrap_u32]; done)), (HS.out).keep (l := []) (rest := [])⟩
                  · have H := if_no c2474 H
                    have c2474b0 : t2105.1 = false := by simpa using c2474
                    have c2474b1 : (!t2105.1) = true := by rw [c2474b0]; rfl
                    try rw [c2474b1]
                    clear c2474
                    go_wp2_with fail
                    obtain ⟨t2102, HA2527, H⟩ := bind_some H
                    refine (quitrentlaw05_begun.calls _ t2102 _ ⟨HS.out.begin (l := []) (rest := [b7 g1894 g1895 t1876.1 t1876.2.1 t1876.2.2.1 t1876.2.2.2.1, b6 g1895 A1896 ((t1876.2.2.2.2).length) n1898 t2105.2.1, r2 A1896 ((t1876.2.2.2.2).length) n1898 t2105.2.2, b8 g1863 a1854 a1855 0, b8 g1866 a1857 a1858 a1859])⟩ HA2527).mono ?_
                    rintro e_ w2528 ⟨rfl, hS⟩
                    replace HS : Aside0 (Sep (fps []) w [b7 g1894 g1895 t1876.1 t1876.2.1 t1876.2.2.1 t1876.2.2.2.1, b6 g1895 A1896 ((t1876.2.2.2.2).length) n1898 t2105.2.1, r2 A1896 ((t1876.2.2.2.2).length) n1898 t2105.2.2, b8 g1863 a1854 a1855 0, b8 g1866 a1857 a1858 a1859] w2528) := ⟨HS.out.call (l := []) (rest := [b7 g1894 g1895 t1876.1 t1876.2.1 t1876.2.2.1 t1876.2.2.2.1, b6 g1895 A1896 ((t1876.2.2.2.2).length) n1898 t2105.2.1, r2 A1896 ((t1876.2.2.2.2).length) n1898 t2105.2.2, b8 g1863 a1854 a1855 0, b8 g1866 a1857 a1858 a1859]) hS⟩
                    clear hS
                    replace HS : Aside0 (Sep (fps []) w [] w2528) := ⟨HS.out.sub (.cons _ (.cons _ (.cons _ (.cons _ (.cons _ .slnil)))))⟩
                    go_wp2_with fail
                    go_ret
                    rw [← some_eq H]
                    exact ⟨(by first | rfl | (simp [IntKind.wrap_u32]; done)), (HS.out).keep (l := []) (rest := [])⟩
              · have H := if_no c2346 H
                have c2346b0 : t2090.1 = false := by simpa using c2346
                have c2346b1 : (!t2090.1) = true := by rw [c2346b0]; rfl
                try rw [c2346b1]
                clear c2346
                go_wp2_with fail
                obtain ⟨t2102, HA2529, H⟩ := bind_some H
                refine (quitrentlaw05_begun.calls _ t2102 _ ⟨HS.out.begin (l := []) (rest := [b7 g1894 g1895 t1876.1 t1876.2.1 t1876.2.2.1 t1876.2.2.2.1, b6 g1895 A1896 ((t1876.2.2.2.2).length) n1898 t2090.2.1, r2 A1896 ((t1876.2.2.2.2).length) n1898 t2090.2.2, b8 g1863 a1854 a1855 0, b8 g1866 a1857 a1858 a1859])⟩ HA2529).mono ?_
                rintro e_ w2530 ⟨rfl, hS⟩
                replace HS : Aside0 (Sep (fps []) w [b7 g1894 g1895 t1876.1 t1876.2.1 t1876.2.2.1 t1876.2.2.2.1, b6 g1895 A1896 ((t1876.2.2.2.2).length) n1898 t2090.2.1, r2 A1896 ((t1876.2.2.2.2).length) n1898 t2090.2.2, b8 g1863 a1854 a1855 0, b8 g1866 a1857 a1858 a1859] w2530) := ⟨HS.out.call (l := []) (rest := [b7 g1894 g1895 t1876.1 t1876.2.1 t1876.2.2.1 t1876.2.2.2.1, b6 g1895 A1896 ((t1876.2.2.2.2).length) n1898 t2090.2.1, r2 A1896 ((t1876.2.2.2.2).length) n1898 t2090.2.2, b8 g1863 a1854 a1855 0, b8 g1866 a1857 a1858 a1859]) hS⟩
                clear hS
                replace HS : Aside0 (Sep (fps []) w [] w2530) := ⟨HS.out.sub (.cons _ (.cons _ (.cons _ (.cons _ (.cons _ .slnil)))))⟩
                go_wp2_with fail
                go_ret
                rw [← some_eq H]
                exact ⟨(by first | rfl | (simp [IntKind.wrap_u32]; done)), (HS.out).keep (l := []) (rest := [])⟩
          · have H := if_no c1917 H
            have c1917b0 : decide (a1854 < 2) = false := decide_eq_false c1917
            clear c1917
            by_cases c2531 : a1857 < 2
            · have H := if_yes c2531 H
              have c2531b0 : decide (a1857 < 2) = true := decide_eq_true c2531
              clear c2531
              have hc1908 : w1906.cell? ⟨g1863, 0, none⟩ = some (.int .u8 a1854) := blk_cellv (HS.out.at4) 0 rfl
              have hc1913 : w1906.cell? ⟨g1866, 0, none⟩ = some (.int .u8 a1857) := blk_cellv (HS.out.at5) 0 rfl
              replace HS : Aside0 (Sep (fps []) w [b7 g1894 g1895 t1876.1 t1876.2.1 t1876.2.2.1 t1876.2.2.2.1, b6 g1895 A1896 ((t1876.2.2.2.2).length) n1898 0, r2 A1896 ((t1876.2.2.2.2).length) n1898 t1876.2.2.2.2, b8 g1863 a1854 a1855 a1856, b8 g1866 a1857 a1858 a1859] w1906) := ⟨HS.out.sub (.cons_cons _ (.cons_cons _ (.cons_cons _ (.cons _ (.cons_cons _ (.cons_cons _ .slnil))))))⟩
              have hc2532 : w1906.cell? ⟨g1866, 2, none⟩ = some (.int .i64 a1859) := blk_cellv (HS.out.at4) 2 rfl
              have hz2533 : w1906.frozen? ⟨g1866, 2, none⟩ = false := blk_fz (HS.out.at4) 2
              go_wp2_with (first | ((with_reducible refine gate_store (t := 3) (p := 50) rfl ?_); refine store_event (w1 := (World.setCell w1906 ⟨g1866, 2, none⟩ (.int .i64 0))) rfl (t := 3) (p := 50) rfl rfl ?hr ?_; (case hr => first | (go_simp; done) | (go_simp; rfl)); intro w2534 hst; clear hc1908 hc1913 hc2532 hz2533; have hq0 : Sep (fps []) w [b7 g1894 g1895 t1876.1 t1876.2.1 t1876.2.2.1 t1876.2.2.2.1, b6 g1895 A1896 ((t1876.2.2.2.2).length) n1898 0, r2 A1896 ((t1876.2.2.2.2).length) n1898 t1876.2.2.2.2, b8 g1863 a1854 a1855 a1856, b8 g1866 a1857 a1858 0] (World.setCell w1906 ⟨g1866, 2, none⟩ (.int .i64 0)) := (HS.out).set1 (l1 := [b7 g1894 g1895 t1876.1 t1876.2.1 t1876.2.2.1 t1876.2.2.2.1, b6 g1895 A1896 ((t1876.2.2.2.2).length) n1898 0, r2 A1896 ((t1876.2.2.2.2).length) n1898 t1876.2.2.2.2, b8 g1863 a1854 a1855 a1856]) (l2 := []) 2 (.int .i64 0); replace HS : Aside0 (Sep (fps []) w [b7 g1894 g1895 t1876.1 t1876.2.1 t1876.2.2.1 t1876.2.2.2.1, b6 g1895 A1896 ((t1876.2.2.2.2).length) n1898 0, r2 A1896 ((t1876.2.2.2.2).length) n1898 t1876.2.2.2.2, b8 g1863 a1854 a1855 a1856, b8 g1866 a1857 a1858 0] w2534) := ⟨by rw [hst]; exact hq0⟩; clear hq0; clear hst; have hc2535 : w2534.cell? ⟨g1863, 0, none⟩ = some (.int .u8 a1854) := blk_cellv (HS.out.at3) 0 rfl; have hc2536 : w2534.cell? ⟨g1863, 1, none⟩ = some (.int .i64 a1855) := blk_cellv (HS.out.at3) 1 rfl; have hc2537 : w2534.cell? ⟨g1863, 2, none⟩ = some (.int .i64 a1856) := blk_cellv (HS.out.at3) 2 rfl))
              clear hc2535 hc2536 hc2537
              obtain ⟨t2090, HA2538, H⟩ := bind_some H
              refine (quitrentlaw05_put.calls t1876.2.2.2.2 0 t1876.1 t1876.2.1 t1876.2.2.1 t1876.2.2.2.1 a1854 a1855 a1856 5 g1894 g1895 A1896 ((t1876.2.2.2.2).length) n1898 t2090 _ ⟨HS.out.begin (l := [b7 g1894 g1895 t1876.1 t1876.2.1 t1876.2.2.1 t1876.2.2.2.1, b6 g1895 A1896 ((t1876.2.2.2.2).length) n1898 0, r2 A1896 ((t1876.2.2.2.2).length) n1898 t1876.2.2.2.2]) (rest := [b8 g1863 a1854 a1855 a1856, b8 g1866 a1857 a1858 0])⟩ HA2538).mono ?_
              rintro e_ w2539 ⟨rfl, hS⟩
              replace HS : Aside0 (Sep (fps []) w [b7 g1894 g1895 t1876.1 t1876.2.1 t1876.2.2.1 t1876.2.2.2.1, b6 g1895 A1896 ((t1876.2.2.2.2).length) n1898 t2090.2.1, r2 A1896 ((t1876.2.2.2.2).length) n1898 t2090.2.2, b8 g1863 a1854 a1855 a1856, b8 g1866 a1857 a1858 0] w2539) := ⟨HS.out.call (l := [b7 g1894 g1895 t1876.1 t1876.2.1 t1876.2.2.1 t1876.2.2.2.1, b6 g1895 A1896 ((t1876.2.2.2.2).length) n1898 0, r2 A1896 ((t1876.2.2.2.2).length) n1898 t1876.2.2.2.2]) (rest := [b8 g1863 a1854 a1855 a1856, b8 g1866 a1857 a1858 0]) hS⟩
              clear hS
              by_cases c2540 : t2090.1 = true
              · have H := if_yes c2540 H
                have c2540b0 : t2090.1 = true := c2540
                have c2540b1 : (!t2090.1) = false := by rw [c2540b0]; rfl
                try rw [c2540b1]
                clear c2540
                by_cases c2547 : a1854 = a1857
                · have H := if_yes c2547 H
                  have c2547b0 : (a1854 == a1857) = true := beq_iff_eq.mpr c2547
                  have c2547b1 : (a1854 != a1857) = false := bne_eq_false_iff_eq.mpr c2547
                  clear c2547
                  by_cases c2548 : a1855 = a1858
                  · have H := if_yes c2548 H
                    have c2548b0 : (a1855 == a1858) = true := beq_iff_eq.mpr c2548
                    have c2548b1 : (a1855 != a1858) = false := bne_eq_false_iff_eq.mpr c2548
                    clear c2548
                    by_cases c2549 : a1856 = 0
                    · have H := if_yes c2549 H
                      have c2549b0 : (a1856 == 0) = true := beq_iff_eq.mpr c2549
                      have c2549b1 : (a1856 != 0) = false := bne_eq_false_iff_eq.mpr c2549
                      clear c2549
                      have hc2541 : w2539.cell? ⟨g1863, 0, none⟩ = some (.int .u8 a1854) := blk_cellv (HS.out.at3) 0 rfl
                      have hc2542 : w2539.cell? ⟨g1863, 1, none⟩ = some (.int .i64 a1855) := blk_cellv (HS.out.at3) 1 rfl
                      have hc2543 : w2539.cell? ⟨g1863, 2, none⟩ = some (.int .i64 a1856) := blk_cellv (HS.out.at3) 2 rfl
                      have hc2544 : w2539.cell? ⟨g1866, 0, none⟩ = some (.int .u8 a1857) := blk_cellv (HS.out.at4) 0 rfl
                      have hc2545 : w2539.cell? ⟨g1866, 1, none⟩ = some (.int .i64 a1858) := blk_cellv (HS.out.at4) 1 rfl
                      have hc2546 : w2539.cell? ⟨g1866, 2, none⟩ = some (.int .i64 0) := blk_cellv (HS.out.at4) 2 rfl
                      go_wp2_with fail
                      clear hc2541 hc2542 hc2543 hc2544 hc2545 hc2546
                      obtain ⟨t2102, HA2550, H⟩ := bind_some H
                      refine (quitrentlaw05_begun.calls _ t2102 _ ⟨HS.out.begin (l := []) (rest := [b7 g1894 g1895 t1876.1 t1876.2.1 t1876.2.2.1 t1876.2.2.2.1, b6 g1895 A1896 ((t1876.2.2.2.2).length) n1898 t2090.2.1, r2 A1896 ((t1876.2.2.2.2).length) n1898 t2090.2.2, b8 g1863 a1854 a1855 a1856, b8 g1866 a1857 a1858 0])⟩ HA2550).mono ?_
                      rintro e_ w2551 ⟨rfl, hS⟩
                      replace HS : Aside0 (Sep (fps []) w [b7 g1894 g1895 t1876.1 t1876.2.1 t1876.2.2.1 t1876.2.2.2.1, b6 g1895 A1896 ((t1876.2.2.2.2).length) n1898 t2090.2.1, r2 A1896 ((t1876.2.2.2.2).length) n1898 t2090.2.2, b8 g1863 a1854 a1855 a1856, b8 g1866 a1857 a1858 0] w2551) := ⟨HS.out.call (l := []) (rest := [b7 g1894 g1895 t1876.1 t1876.2.1 t1876.2.2.1 t1876.2.2.2.1, b6 g1895 A1896 ((t1876.2.2.2.2).length) n1898 t2090.2.1, r2 A1896 ((t1876.2.2.2.2).length) n1898 t2090.2.2, b8 g1863 a1854 a1855 a1856, b8 g1866 a1857 a1858 0]) hS⟩
                      clear hS
                      replace HS : Aside0 (Sep (fps []) w [] w2551) := ⟨HS.out.sub (.cons _ (.cons _ (.cons _ (.cons _ (.cons _ .slnil)))))⟩
                      go_wp2_with fail
                      go_ret
                      rw [← some_eq H]
                      exact ⟨(by first | rfl | (simp [IntKind.wrap_u32]; done)), (HS.out).keep (l := []) (rest := [])⟩
                    · have H := if_no c2549 H
                      have c2549b0 : (a1856 == 0) = false := beq_eq_false_iff_ne.mpr c2549
                      have c2549b1 : (a1856 != 0) = true := bne_iff_ne.mpr c2549
                      clear c2549
                      have hc2541 : w2539.cell? ⟨g1863, 0, none⟩ = some (.int .u8 a1854) := blk_cellv (HS.out.at3) 0 rfl
                      have hc2542 : w2539.cell? ⟨g1863, 1, none⟩ = some (.int .i64 a1855) := blk_cellv (HS.out.at3) 1 rfl
                      have hc2543 : w2539.cell? ⟨g1863, 2, none⟩ = some (.int .i64 a1856) := blk_cellv (HS.out.at3) 2 rfl
                      have hc2544 : w2539.cell? ⟨g1866, 0, none⟩ = some (.int .u8 a1857) := blk_cellv (HS.out.at4) 0 rfl
                      have hc2545 : w2539.cell? ⟨g1866, 1, none⟩ = some (.int .i64 a1858) := blk_cellv (HS.out.at4) 1 rfl
                      have hc2546 : w2539.cell? ⟨g1866, 2, none⟩ = some (.int .i64 0) := blk_cellv (HS.out.at4) 2 rfl
                      go_wp2_with fail
                      clear hc2541 hc2542 hc2543 hc2544 hc2545 hc2546
                      obtain ⟨t2105, HA2552, H⟩ := bind_some H
                      refine (quitrentlaw05_put.calls t2090.2.2 t2090.2.1 t1876.1 t1876.2.1 t1876.2.2.1 t1876.2.2.2.1 a1857 a1858 0 6 g1894 g1895 A1896 ((t1876.2.2.2.2).length) n1898 t2105 _ ⟨HS.out.begin (l := [b7 g1894 g1895 t1876.1 t1876.2.1 t1876.2.2.1 t1876.2.2.2.1, b6 g1895 A1896 ((t1876.2.2.2.2).length) n1898 t2090.2.1, r2 A1896 ((t1876.2.2.2.2).length) n1898 t2090.2.2]) (rest := [b8 g1863 a1854 a1855 a1856, b8 g1866 a1857 a1858 0])⟩ HA2552).mono ?_
                      rintro e_ w2553 ⟨rfl, hS⟩
                      replace HS : Aside0 (Sep (fps []) w [b7 g1894 g1895 t1876.1 t1876.2.1 t1876.2.2.1 t1876.2.2.2.1, b6 g1895 A1896 ((t1876.2.2.2.2).length) n1898 t2105.2.1, r2 A1896 ((t1876.2.2.2.2).length) n1898 t2105.2.2, b8 g1863 a1854 a1855 a1856, b8 g1866 a1857 a1858 0] w2553) := ⟨HS.out.call (l := [b7 g1894 g1895 t1876.1 t1876.2.1 t1876.2.2.1 t1876.2.2.2.1, b6 g1895 A1896 ((t1876.2.2.2.2).length) n1898 t2090.2.1, r2 A1896 ((t1876.2.2.2.2).length) n1898 t2090.2.2]) (rest := [b8 g1863 a1854 a1855 a1856, b8 g1866 a1857 a1858 0]) hS⟩
                      clear hS
                      by_cases c2554 : t2105.1 = true
                      · have H := if_yes c2554 H
                        have c2554b0 : t2105.1 = true := c2554
                        have c2554b1 : (!t2105.1) = false := by rw [c2554b0]; rfl
                        try rw [c2554b1]
                        clear c2554
                        go_wp2_with fail
                        obtain ⟨t2109, HA2555, H⟩ := bind_some H
                        refine (ground_Ground_Words.calls t2105.2.2 t2105.2.1 t1876.1 t1876.2.1 t1876.2.2.1 t1876.2.2.2.1 g1894 g1895 A1896 ((t1876.2.2.2.2).length) n1898 t2109 _ ⟨HS.out.begin (l := [b7 g1894 g1895 t1876.1 t1876.2.1 t1876.2.2.1 t1876.2.2.2.1, b6 g1895 A1896 ((t1876.2.2.2.2).length) n1898 t2105.2.1, r2 A1896 ((t1876.2.2.2.2).length) n1898 t2105.2.2]) (rest := [b8 g1863 a1854 a1855 a1856, b8 g1866 a1857 a1858 0])⟩ HA2555).mono ?_
                        rintro e_ w2556 ⟨A2558, m2559, n2560, rfl, hS⟩
                        replace HS : Aside0 (Sep (fps []) w [b7 g1894 g1895 t1876.1 t1876.2.1 t1876.2.2.1 t1876.2.2.2.1, b6 g1895 A1896 ((t1876.2.2.2.2).length) n1898 t2105.2.1, r2 A1896 ((t1876.2.2.2.2).length) n1898 t2105.2.2, r2 A2558 m2559 n2560 t2109, b8 g1863 a1854 a1855 a1856, b8 g1866 a1857 a1858 0] w2556) := ⟨HS.out.call (l := [b7 g1894 g1895 t1876.1 t1876.2.1 t1876.2.2.1 t1876.2.2.2.1, b6 g1895 A1896 ((t1876.2.2.2.2).length) n1898 t2105.2.1, r2 A1896 ((t1876.2.2.2.2).length) n1898 t2105.2.2]) (rest := [b8 g1863 a1854 a1855 a1856, b8 g1866 a1857 a1858 0]) hS⟩
                        clear hS
                        obtain rfl := (row_len (HS.out.at3)).symm
                        go_wp2_with fail
                        obtain ⟨o2563, AL2564, H⟩ := bind_some H
                        go_loopg [9, 70] k (fun kq v9 v70 wc => ∃ (x2567 : Int) (x2568 : Int), v9 = .int .i64 x2567 ∧ v70 = .int .i64 x2568 ∧ Aside0 (quitrentlaw05_GroundApart.lo5 kq t2109 x2567 x2568 = some o2563) ∧ Aside0 (Sep (fps []) w [b7 g1894 g1895 t1876.1 t1876.2.1 t1876.2.2.1 t1876.2.2.2.1, b6 g1895 A1896 ((t1876.2.2.2.2).length) n1898 t2105.2.1, r2 A1896 ((t1876.2.2.2.2).length) n1898 t2105.2.2, r2 A2558 t2109.length n2560 t2109, b8 g1863 a1854 a1855 a1856, b8 g1866 a1857 a1858 0] wc))
                        case atStart => exact ⟨(0), (0), (by first | rfl | (simp [IntKind.wrap_u32]; done)), (by first | rfl | (simp [IntKind.wrap_u32]; done)), AL2564, ⟨HS.out⟩⟩
                        case round =>
                          clear AL2564 HS
                          obtain ⟨x2567, x2568, rfl, rfl, AL2564, HS⟩ := hrel
                          obtain ⟨w2565, rfl⟩ : ∃ x : World, x = wr := ⟨_, rfl⟩
                          cases gk with
                          | zero => exact absurd AL2564.out (by simp [quitrentlaw05_GroundApart.lo5])
                          | succ k2566 =>
                            have AL0 := AL2564.out
                            rw [quitrentlaw05_GroundApart.lo5] at AL0
                            clear AL2564
                            have AL2564 := Aside0.mk AL0
                            clear AL0
                            by_cases c2569 : x2568 < (t2109.length : Int)
                            · have AL2564 := if_yes c2569 AL2564
                              have c2569b0 : decide (x2568 < (t2109.length : Int)) = true := decide_eq_true c2569
                              clear c2569
                              by_cases c2570 : 0 ≤ x2568
                              · have AL2564 := if_yes c2570 AL2564
                                have c2570b0 : decide (0 ≤ x2568) = true := decide_eq_true c2570
                                have c2570p : (0 ≤ x2568) = True := eq_true c2570
                                clear c2570
                                have ip2571 : (x2568 < (t2109.length : Int)) = True := eq_true (of_decide_eq_true c2569b0)
                                by_cases c2575 : (rd t2109 x2568) = 0
                                · have AL2564 := if_yes c2575 AL2564
                                  have c2575b0 : ((rd t2109 x2568) == 0) = true := beq_iff_eq.mpr c2575
                                  have c2575b1 : ((rd t2109 x2568) != 0) = false := bne_eq_false_iff_eq.mpr c2575
                                  clear c2575
                                  obtain ⟨g2572, ea⟩ := row_at (HS.out.at3) (by have := (of_decide_eq_true c2570b0); have := (of_decide_eq_true c2569b0); omega); cases ea
                                  have hx2573 := C_at_int (row_Ci (HS.out.at3)) x2568 (of_decide_eq_true c2570b0) (of_decide_eq_true c2569b0)
                                  have hx2574 : w2565.cell? ⟨g2572, (x2568).toNat, none⟩ = some (.int .u32 (rd t2109 x2568)) := (row_get 0 (HS.out.at3) x2568 (of_decide_eq_true c2570b0) (of_decide_eq_true c2569b0)).1
                                  go_wp2_with fail
                                  clear hx2573 hx2574
                                  go_roundg k2566
                                  case measure => exact Nat.lt_succ_self _
                                  case rel => exact ⟨(x2567), (wrap64 (x2568 + 1)), (by first | rfl | (simp [IntKind.wrap_u32]; done)), (by first | rfl | (simp [IntKind.wrap_u32]; done)), Aside0.mk AL2564.out, ⟨(((((((HS.out).front 5 (by simp)).front 5 (by simp)).front 5 (by simp)).front 5 (by simp)).front 5 (by simp)).front 5 (by simp)).keep (l := [b7 g1894 g1895 t1876.1 t1876.2.1 t1876.2.2.1 t1876.2.2.2.1, b6 g1895 A1896 ((t1876.2.2.2.2).length) n1898 t2105.2.1, r2 A1896 ((t1876.2.2.2.2).length) n1898 t2105.2.2, r2 (some ⟨g2572, 0, none⟩) t2109.length n2560 t2109, b8 g1863 a1854 a1855 a1856, b8 g1866 a1857 a1858 0]) (rest := [])⟩⟩
                                · have AL2564 := if_no c2575 AL2564
                                  have c2575b0 : ((rd t2109 x2568) == 0) = false := beq_eq_false_iff_ne.mpr c2575
                                  have c2575b1 : ((rd t2109 x2568) != 0) = true := bne_iff_ne.mpr c2575
                                  clear c2575
                                  obtain ⟨g2572, ea⟩ := row_at (HS.out.at3) (by have := (of_decide_eq_true c2570b0); have := (of_decide_eq_true c2569b0); omega); cases ea
                                  have hx2573 := C_at_int (row_Ci (HS.out.at3)) x2568 (of_decide_eq_true c2570b0) (of_decide_eq_true c2569b0)
                                  have hx2574 : w2565.cell? ⟨g2572, (x2568).toNat, none⟩ = some (.int .u32 (rd t2109 x2568)) := (row_get 0 (HS.out.at3) x2568 (of_decide_eq_true c2570b0) (of_decide_eq_true c2569b0)).1
                                  go_wp2_with fail
                                  clear hx2573 hx2574
                                  go_roundg k2566
                                  case measure => exact Nat.lt_succ_self _
                                  case rel => exact ⟨(wrap64 (x2567 + 1)), (wrap64 (x2568 + 1)), (by first | rfl | (simp [IntKind.wrap_u32]; done)), (by first | rfl | (simp [IntKind.wrap_u32]; done)), Aside0.mk AL2564.out, ⟨(((((((HS.out).front 5 (by simp)).front 5 (by simp)).front 5 (by simp)).front 5 (by simp)).front 5 (by simp)).front 5 (by simp)).keep (l := [b7 g1894 g1895 t1876.1 t1876.2.1 t1876.2.2.1 t1876.2.2.2.1, b6 g1895 A1896 ((t1876.2.2.2.2).length) n1898 t2105.2.1, r2 A1896 ((t1876.2.2.2.2).length) n1898 t2105.2.2, r2 (some ⟨g2572, 0, none⟩) t2109.length n2560 t2109, b8 g1863 a1854 a1855 a1856, b8 g1866 a1857 a1858 0]) (rest := [])⟩⟩
                              · have AL2564 := if_no c2570 AL2564
                                have c2570b0 : decide (0 ≤ x2568) = false := decide_eq_false c2570
                                clear c2570
                                exact (none_no AL2564).elim
                            · have AL2564 := if_no c2569 AL2564
                              have c2569b0 : decide (x2568 < (t2109.length : Int)) = false := decide_eq_false c2569
                              clear c2569
                              have ho := some_eq AL2564
                              subst ho
                              clear AL2564
                              have hc2576 : w2565.cell? ⟨g1863, 0, none⟩ = some (.int .u8 a1854) := blk_cellv (HS.out.at4) 0 rfl
                              have hc2577 : w2565.cell? ⟨g1863, 1, none⟩ = some (.int .i64 a1855) := blk_cellv (HS.out.at4) 1 rfl
                              have hc2578 : w2565.cell? ⟨g1863, 2, none⟩ = some (.int .i64 a1856) := blk_cellv (HS.out.at4) 2 rfl
                              go_wp2_with fail
                              clear hc2576 hc2577 hc2578
                              obtain ⟨t2249, HA2579, H⟩ := bind_some H
                              refine (quitrentlaw05_get.calls t2105.2.2 t2105.2.1 t1876.1 t1876.2.1 t1876.2.2.1 t1876.2.2.2.1 a1854 a1855 a1856 g1894 g1895 A1896 ((t1876.2.2.2.2).length) n1898 t2249 _ ⟨HS.out.begin (l := [b7 g1894 g1895 t1876.1 t1876.2.1 t1876.2.2.1 t1876.2.2.2.1, b6 g1895 A1896 ((t1876.2.2.2.2).length) n1898 t2105.2.1, r2 A1896 ((t1876.2.2.2.2).length) n1898 t2105.2.2]) (rest := [r2 A2558 t2109.length n2560 t2109, b8 g1863 a1854 a1855 a1856, b8 g1866 a1857 a1858 0])⟩ HA2579).mono ?_
                              rintro e_ w2580 ⟨rfl, hS⟩
                              replace HS : Aside0 (Sep (fps []) w [b7 g1894 g1895 t1876.1 t1876.2.1 t1876.2.2.1 t1876.2.2.2.1, b6 g1895 A1896 ((t1876.2.2.2.2).length) n1898 t2249.2, r2 A1896 ((t1876.2.2.2.2).length) n1898 t2105.2.2, r2 A2558 t2109.length n2560 t2109, b8 g1863 a1854 a1855 a1856, b8 g1866 a1857 a1858 0] w2580) := ⟨HS.out.call (l := [b7 g1894 g1895 t1876.1 t1876.2.1 t1876.2.2.1 t1876.2.2.2.1, b6 g1895 A1896 ((t1876.2.2.2.2).length) n1898 t2105.2.1, r2 A1896 ((t1876.2.2.2.2).length) n1898 t2105.2.2]) (rest := [r2 A2558 t2109.length n2560 t2109, b8 g1863 a1854 a1855 a1856, b8 g1866 a1857 a1858 0]) hS⟩
                              clear hS
                              by_cases c2581 : t2249.1 = 5
                              · have H := if_yes c2581 H
                                have c2581b0 : (t2249.1 == 5) = true := beq_iff_eq.mpr c2581
                                have c2581b1 : (t2249.1 != 5) = false := bne_eq_false_iff_eq.mpr c2581
                                clear c2581
                                have hc2582 : w2580.cell? ⟨g1866, 0, none⟩ = some (.int .u8 a1857) := blk_cellv (HS.out.at5) 0 rfl
                                have hc2583 : w2580.cell? ⟨g1866, 1, none⟩ = some (.int .i64 a1858) := blk_cellv (HS.out.at5) 1 rfl
                                have hc2584 : w2580.cell? ⟨g1866, 2, none⟩ = some (.int .i64 0) := blk_cellv (HS.out.at5) 2 rfl
                                go_wp2_with fail
                                clear hc2582 hc2583 hc2584
                                obtain ⟨t2256, HA2585, H⟩ := bind_some H
                                refine (quitrentlaw05_get.calls t2105.2.2 t2249.2 t1876.1 t1876.2.1 t1876.2.2.1 t1876.2.2.2.1 a1857 a1858 0 g1894 g1895 A1896 ((t1876.2.2.2.2).length) n1898 t2256 _ ⟨HS.out.begin (l := [b7 g1894 g1895 t1876.1 t1876.2.1 t1876.2.2.1 t1876.2.2.2.1, b6 g1895 A1896 ((t1876.2.2.2.2).length) n1898 t2249.2, r2 A1896 ((t1876.2.2.2.2).length) n1898 t2105.2.2]) (rest := [r2 A2558 t2109.length n2560 t2109, b8 g1863 a1854 a1855 a1856, b8 g1866 a1857 a1858 0])⟩ HA2585).mono ?_
                                rintro e_ w2586 ⟨rfl, hS⟩
                                replace HS : Aside0 (Sep (fps []) w [b7 g1894 g1895 t1876.1 t1876.2.1 t1876.2.2.1 t1876.2.2.2.1, b6 g1895 A1896 ((t1876.2.2.2.2).length) n1898 t2256.2, r2 A1896 ((t1876.2.2.2.2).length) n1898 t2105.2.2, r2 A2558 t2109.length n2560 t2109, b8 g1863 a1854 a1855 a1856, b8 g1866 a1857 a1858 0] w2586) := ⟨HS.out.call (l := [b7 g1894 g1895 t1876.1 t1876.2.1 t1876.2.2.1 t1876.2.2.2.1, b6 g1895 A1896 ((t1876.2.2.2.2).length) n1898 t2249.2, r2 A1896 ((t1876.2.2.2.2).length) n1898 t2105.2.2]) (rest := [r2 A2558 t2109.length n2560 t2109, b8 g1863 a1854 a1855 a1856, b8 g1866 a1857 a1858 0]) hS⟩
                                clear hS
                                by_cases c2587 : t2256.1 = 6
                                · have H := if_yes c2587 H
                                  have c2587b0 : (t2256.1 == 6) = true := beq_iff_eq.mpr c2587
                                  have c2587b1 : (t2256.1 != 6) = false := bne_eq_false_iff_eq.mpr c2587
                                  clear c2587
                                  by_cases c2588 : x2567 = 2
                                  · have H := if_yes c2588 H
                                    have c2588b0 : (x2567 == 2) = true := beq_iff_eq.mpr c2588
                                    have c2588b1 : (x2567 != 2) = false := bne_eq_false_iff_eq.mpr c2588
                                    clear c2588
                                    go_wp2_with fail
                                    obtain ⟨t2261, HA2589, H⟩ := bind_some H
                                    refine (quitrentlaw05_begun.calls _ t2261 _ ⟨HS.out.begin (l := []) (rest := [b7 g1894 g1895 t1876.1 t1876.2.1 t1876.2.2.1 t1876.2.2.2.1, b6 g1895 A1896 ((t1876.2.2.2.2).length) n1898 t2256.2, r2 A1896 ((t1876.2.2.2.2).length) n1898 t2105.2.2, r2 A2558 t2109.length n2560 t2109, b8 g1863 a1854 a1855 a1856, b8 g1866 a1857 a1858 0])⟩ HA2589).mono ?_
                                    rintro e_ w2590 ⟨rfl, hS⟩
                                    replace HS : Aside0 (Sep (fps []) w [b7 g1894 g1895 t1876.1 t1876.2.1 t1876.2.2.1 t1876.2.2.2.1, b6 g1895 A1896 ((t1876.2.2.2.2).length) n1898 t2256.2, r2 A1896 ((t1876.2.2.2.2).length) n1898 t2105.2.2, r2 A2558 t2109.length n2560 t2109, b8 g1863 a1854 a1855 a1856, b8 g1866 a1857 a1858 0] w2590) := ⟨HS.out.call (l := []) (rest := [b7 g1894 g1895 t1876.1 t1876.2.1 t1876.2.2.1 t1876.2.2.2.1, b6 g1895 A1896 ((t1876.2.2.2.2).length) n1898 t2256.2, r2 A1896 ((t1876.2.2.2.2).length) n1898 t2105.2.2, r2 A2558 t2109.length n2560 t2109, b8 g1863 a1854 a1855 a1856, b8 g1866 a1857 a1858 0]) hS⟩
                                    clear hS
                                    replace HS : Aside0 (Sep (fps []) w [] w2590) := ⟨HS.out.sub (.cons _ (.cons _ (.cons _ (.cons _ (.cons _ (.cons _ .slnil))))))⟩
                                    go_wp2_with fail
                                    go_ret
                                    rw [← some_eq H]
                                    exact ⟨(by first | rfl | (simp [IntKind.wrap_u32]; done)), (HS.out).keep (l := []) (rest := [])⟩
                                  · have H := if_no c2588 H
                                    have c2588b0 : (x2567 == 2) = false := beq_eq_false_iff_ne.mpr c2588
                                    have c2588b1 : (x2567 != 2) = true := bne_iff_ne.mpr c2588
                                    clear c2588
                                    replace HS : Aside0 (Sep (fps []) w [] w2586) := ⟨HS.out.sub (.cons _ (.cons _ (.cons _ (.cons _ (.cons _ (.cons _ .slnil))))))⟩
                                    go_wp2_with fail
                                    go_ret
                                    rw [← some_eq H]
                                    exact ⟨(by first | rfl | (simp [IntKind.wrap_u32]; done)), (HS.out).keep (l := []) (rest := [])⟩
                                · have H := if_no c2587 H
                                  have c2587b0 : (t2256.1 == 6) = false := beq_eq_false_iff_ne.mpr c2587
                                  have c2587b1 : (t2256.1 != 6) = true := bne_iff_ne.mpr c2587
                                  clear c2587
                                  replace HS : Aside0 (Sep (fps []) w [] w2586) := ⟨HS.out.sub (.cons _ (.cons _ (.cons _ (.cons _ (.cons _ (.cons _ .slnil))))))⟩
                                  go_wp2_with fail
                                  go_ret
                                  rw [← some_eq H]
                                  exact ⟨(by first | rfl | (simp [IntKind.wrap_u32]; done)), (HS.out).keep (l := []) (rest := [])⟩
                              · have H := if_no c2581 H
                                have c2581b0 : (t2249.1 == 5) = false := beq_eq_false_iff_ne.mpr c2581
                                have c2581b1 : (t2249.1 != 5) = true := bne_iff_ne.mpr c2581
                                clear c2581
                                replace HS : Aside0 (Sep (fps []) w [] w2580) := ⟨HS.out.sub (.cons _ (.cons _ (.cons _ (.cons _ (.cons _ (.cons _ .slnil))))))⟩
                                go_wp2_with fail
                                go_ret
                                rw [← some_eq H]
                                exact ⟨(by first | rfl | (simp [IntKind.wrap_u32]; done)), (HS.out).keep (l := []) (rest := [])⟩
                      · have H := if_no c2554 H
                        have c2554b0 : t2105.1 = false := by simpa using c2554
                        have c2554b1 : (!t2105.1) = true := by rw [c2554b0]; rfl
                        try rw [c2554b1]
                        clear c2554
                        go_wp2_with fail
                        obtain ⟨t2102, HA2607, H⟩ := bind_some H
                        refine (quitrentlaw05_begun.calls _ t2102 _ ⟨HS.out.begin (l := []) (rest := [b7 g1894 g1895 t1876.1 t1876.2.1 t1876.2.2.1 t1876.2.2.2.1, b6 g1895 A1896 ((t1876.2.2.2.2).length) n1898 t2105.2.1, r2 A1896 ((t1876.2.2.2.2).length) n1898 t2105.2.2, b8 g1863 a1854 a1855 a1856, b8 g1866 a1857 a1858 0])⟩ HA2607).mono ?_
                        rintro e_ w2608 ⟨rfl, hS⟩
                        replace HS : Aside0 (Sep (fps []) w [b7 g1894 g1895 t1876.1 t1876.2.1 t1876.2.2.1 t1876.2.2.2.1, b6 g1895 A1896 ((t1876.2.2.2.2).length) n1898 t2105.2.1, r2 A1896 ((t1876.2.2.2.2).length) n1898 t2105.2.2, b8 g1863 a1854 a1855 a1856, b8 g1866 a1857 a1858 0] w2608) := ⟨HS.out.call (l := []) (rest := [b7 g1894 g1895 t1876.1 t1876.2.1 t1876.2.2.1 t1876.2.2.2.1, b6 g1895 A1896 ((t1876.2.2.2.2).length) n1898 t2105.2.1, r2 A1896 ((t1876.2.2.2.2).length) n1898 t2105.2.2, b8 g1863 a1854 a1855 a1856, b8 g1866 a1857 a1858 0]) hS⟩
                        clear hS
                        replace HS : Aside0 (Sep (fps []) w [] w2608) := ⟨HS.out.sub (.cons _ (.cons _ (.cons _ (.cons _ (.cons _ .slnil)))))⟩
                        go_wp2_with fail
                        go_ret
                        rw [← some_eq H]
                        exact ⟨(by first | rfl | (simp [IntKind.wrap_u32]; done)), (HS.out).keep (l := []) (rest := [])⟩
                  · have H := if_no c2548 H
                    have c2548b0 : (a1855 == a1858) = false := beq_eq_false_iff_ne.mpr c2548
                    have c2548b1 : (a1855 != a1858) = true := bne_iff_ne.mpr c2548
                    clear c2548
                    have hc2541 : w2539.cell? ⟨g1863, 0, none⟩ = some (.int .u8 a1854) := blk_cellv (HS.out.at3) 0 rfl
                    have hc2542 : w2539.cell? ⟨g1863, 1, none⟩ = some (.int .i64 a1855) := blk_cellv (HS.out.at3) 1 rfl
                    have hc2543 : w2539.cell? ⟨g1863, 2, none⟩ = some (.int .i64 a1856) := blk_cellv (HS.out.at3) 2 rfl
                    have hc2544 : w2539.cell? ⟨g1866, 0, none⟩ = some (.int .u8 a1857) := blk_cellv (HS.out.at4) 0 rfl
                    have hc2545 : w2539.cell? ⟨g1866, 1, none⟩ = some (.int .i64 a1858) := blk_cellv (HS.out.at4) 1 rfl
                    have hc2546 : w2539.cell? ⟨g1866, 2, none⟩ = some (.int .i64 0) := blk_cellv (HS.out.at4) 2 rfl
                    go_wp2_with fail
                    clear hc2541 hc2542 hc2543 hc2544 hc2545 hc2546
                    obtain ⟨t2105, HA2609, H⟩ := bind_some H
                    refine (quitrentlaw05_put.calls t2090.2.2 t2090.2.1 t1876.1 t1876.2.1 t1876.2.2.1 t1876.2.2.2.1 a1857 a1858 0 6 g1894 g1895 A1896 ((t1876.2.2.2.2).length) n1898 t2105 _ ⟨HS.out.begin (l := [b7 g1894 g1895 t1876.1 t1876.2.1 t1876.2.2.1 t1876.2.2.2.1, b6 g1895 A1896 ((t1876.2.2.2.2).length) n1898 t2090.2.1, r2 A1896 ((t1876.2.2.2.2).length) n1898 t2090.2.2]) (rest := [b8 g1863 a1854 a1855 a1856, b8 g1866 a1857 a1858 0])⟩ HA2609).mono ?_
                    rintro e_ w2610 ⟨rfl, hS⟩
                    replace HS : Aside0 (Sep (fps []) w [b7 g1894 g1895 t1876.1 t1876.2.1 t1876.2.2.1 t1876.2.2.2.1, b6 g1895 A1896 ((t1876.2.2.2.2).length) n1898 t2105.2.1, r2 A1896 ((t1876.2.2.2.2).length) n1898 t2105.2.2, b8 g1863 a1854 a1855 a1856, b8 g1866 a1857 a1858 0] w2610) := ⟨HS.out.call (l := [b7 g1894 g1895 t1876.1 t1876.2.1 t1876.2.2.1 t1876.2.2.2.1, b6 g1895 A1896 ((t1876.2.2.2.2).length) n1898 t2090.2.1, r2 A1896 ((t1876.2.2.2.2).length) n1898 t2090.2.2]) (rest := [b8 g1863 a1854 a1855 a1856, b8 g1866 a1857 a1858 0]) hS⟩
                    clear hS
                    by_cases c2611 : t2105.1 = true
                    · have H := if_yes c2611 H
                      have c2611b0 : t2105.1 = true := c2611
                      have c2611b1 : (!t2105.1) = false := by rw [c2611b0]; rfl
                      try rw [c2611b1]
                      clear c2611
                      go_wp2_with fail
                      obtain ⟨t2109, HA2612, H⟩ := bind_some H
                      refine (ground_Ground_Words.calls t2105.2.2 t2105.2.1 t1876.1 t1876.2.1 t1876.2.2.1 t1876.2.2.2.1 g1894 g1895 A1896 ((t1876.2.2.2.2).length) n1898 t2109 _ ⟨HS.out.begin (l := [b7 g1894 g1895 t1876.1 t1876.2.1 t1876.2.2.1 t1876.2.2.2.1, b6 g1895 A1896 ((t1876.2.2.2.2).length) n1898 t2105.2.1, r2 A1896 ((t1876.2.2.2.2).length) n1898 t2105.2.2]) (rest := [b8 g1863 a1854 a1855 a1856, b8 g1866 a1857 a1858 0])⟩ HA2612).mono ?_
                      rintro e_ w2613 ⟨A2615, m2616, n2617, rfl, hS⟩
                      replace HS : Aside0 (Sep (fps []) w [b7 g1894 g1895 t1876.1 t1876.2.1 t1876.2.2.1 t1876.2.2.2.1, b6 g1895 A1896 ((t1876.2.2.2.2).length) n1898 t2105.2.1, r2 A1896 ((t1876.2.2.2.2).length) n1898 t2105.2.2, r2 A2615 m2616 n2617 t2109, b8 g1863 a1854 a1855 a1856, b8 g1866 a1857 a1858 0] w2613) := ⟨HS.out.call (l := [b7 g1894 g1895 t1876.1 t1876.2.1 t1876.2.2.1 t1876.2.2.2.1, b6 g1895 A1896 ((t1876.2.2.2.2).length) n1898 t2105.2.1, r2 A1896 ((t1876.2.2.2.2).length) n1898 t2105.2.2]) (rest := [b8 g1863 a1854 a1855 a1856, b8 g1866 a1857 a1858 0]) hS⟩
                      clear hS
                      obtain rfl := (row_len (HS.out.at3)).symm
                      go_wp2_with fail
                      obtain ⟨o2620, AL2621, H⟩ := bind_some H
                      go_loopg [9, 70] k (fun kq v9 v70 wc => ∃ (x2624 : Int) (x2625 : Int), v9 = .int .i64 x2624 ∧ v70 = .int .i64 x2625 ∧ Aside0 (quitrentlaw05_GroundApart.lo6 kq t2109 x2624 x2625 = some o2620) ∧ Aside0 (Sep (fps []) w [b7 g1894 g1895 t1876.1 t1876.2.1 t1876.2.2.1 t1876.2.2.2.1, b6 g1895 A1896 ((t1876.2.2.2.2).length) n1898 t2105.2.1, r2 A1896 ((t1876.2.2.2.2).length) n1898 t2105.2.2, r2 A2615 t2109.length n2617 t2109, b8 g1863 a1854 a1855 a1856, b8 g1866 a1857 a1858 0] wc))
                      case atStart => exact ⟨(0), (0), (by first | rfl | (simp [IntKind.wrap_u32]; done)), (by first | rfl | (simp [IntKind.wrap_u32]; done)), AL2621, ⟨HS.out⟩⟩
                      case round =>
                        clear AL2621 HS
                        obtain ⟨x2624, x2625, rfl, rfl, AL2621, HS⟩ := hrel
                        obtain ⟨w2622, rfl⟩ : ∃ x : World, x = wr := ⟨_, rfl⟩
                        cases gk with
                        | zero => exact absurd AL2621.out (by simp [quitrentlaw05_GroundApart.lo6])
                        | succ k2623 =>
                          have AL0 := AL2621.out
                          rw [quitrentlaw05_GroundApart.lo6] at AL0
                          clear AL2621
                          have AL2621 := Aside0.mk AL0
                          clear AL0
                          by_cases c2626 : x2625 < (t2109.length : Int)
                          · have AL2621 := if_yes c2626 AL2621
                            have c2626b0 : decide (x2625 < (t2109.length : Int)) = true := decide_eq_true c2626
                            clear c2626
                            by_cases c2627 : 0 ≤ x2625
                            · have AL2621 := if_yes c2627 AL2621
                              have c2627b0 : decide (0 ≤ x2625) = true := decide_eq_true c2627
                              have c2627p : (0 ≤ x2625) = True := eq_true c2627
                              clear c2627
                              have ip2628 : (x2625 < (t2109.length : Int)) = True := eq_true (of_decide_eq_true c2626b0)
                              by_cases c2632 : (rd t2109 x2625) = 0
                              · have AL2621 := if_yes c2632 AL2621
                                have c2632b0 : ((rd t2109 x2625) == 0) = true := beq_iff_eq.mpr c2632
                                have c2632b1 : ((rd t2109 x2625) != 0) = false := bne_eq_false_iff_eq.mpr c2632
                                clear c2632
                                obtain ⟨g2629, ea⟩ := row_at (HS.out.at3) (by have := (of_decide_eq_true c2627b0); have := (of_decide_eq_true c2626b0); omega); cases ea
                                have hx2630 := C_at_int (row_Ci (HS.out.at3)) x2625 (of_decide_eq_true c2627b0) (of_decide_eq_true c2626b0)
                                have hx2631 : w2622.cell? ⟨g2629, (x2625).toNat, none⟩ = some (.int .u32 (rd t2109 x2625)) := (row_get 0 (HS.out.at3) x2625 (of_decide_eq_true c2627b0) (of_decide_eq_true c2626b0)).1
                                go_wp2_with fail
                                clear hx2630 hx2631
                                go_roundg k2623
                                case measure => exact Nat.lt_succ_self _
                                case rel => exact ⟨(x2624), (wrap64 (x2625 + 1)), (by first | rfl | (simp [IntKind.wrap_u32]; done)), (by first | rfl | (simp [IntKind.wrap_u32]; done)), Aside0.mk AL2621.out, ⟨(((((((HS.out).front 5 (by simp)).front 5 (by simp)).front 5 (by simp)).front 5 (by simp)).front 5 (by simp)).front 5 (by simp)).keep (l := [b7 g1894 g1895 t1876.1 t1876.2.1 t1876.2.2.1 t1876.2.2.2.1, b6 g1895 A1896 ((t1876.2.2.2.2).length) n1898 t2105.2.1, r2 A1896 ((t1876.2.2.2.2).length) n1898 t2105.2.2, r2 (some ⟨g2629, 0, none⟩) t2109.length n2617 t2109, b8 g1863 a1854 a1855 a1856, b8 g1866 a1857 a1858 0]) (rest := [])⟩⟩
                              · have AL2621 := if_no c2632 AL2621
                                have c2632b0 : ((rd t2109 x2625) == 0) = false := beq_eq_false_iff_ne.mpr c2632
                                have c2632b1 : ((rd t2109 x2625) != 0) = true := bne_iff_ne.mpr c2632
                                clear c2632
                                obtain ⟨g2629, ea⟩ := row_at (HS.out.at3) (by have := (of_decide_eq_true c2627b0); have := (of_decide_eq_true c2626b0); omega); cases ea
                                have hx2630 := C_at_int (row_Ci (HS.out.at3)) x2625 (of_decide_eq_true c2627b0) (of_decide_eq_true c2626b0)
                                have hx2631 : w2622.cell? ⟨g2629, (x2625).toNat, none⟩ = some (.int .u32 (rd t2109 x2625)) := (row_get 0 (HS.out.at3) x2625 (of_decide_eq_true c2627b0) (of_decide_eq_true c2626b0)).1
                                go_wp2_with fail
                                clear hx2630 hx2631
                                go_roundg k2623
                                case measure => exact Nat.lt_succ_self _
                                case rel => exact ⟨(wrap64 (x2624 + 1)), (wrap64 (x2625 + 1)), (by first | rfl | (simp [IntKind.wrap_u32]; done)), (by first | rfl | (simp [IntKind.wrap_u32]; done)), Aside0.mk AL2621.out, ⟨(((((((HS.out).front 5 (by simp)).front 5 (by simp)).front 5 (by simp)).front 5 (by simp)).front 5 (by simp)).front 5 (by simp)).keep (l := [b7 g1894 g1895 t1876.1 t1876.2.1 t1876.2.2.1 t1876.2.2.2.1, b6 g1895 A1896 ((t1876.2.2.2.2).length) n1898 t2105.2.1, r2 A1896 ((t1876.2.2.2.2).length) n1898 t2105.2.2, r2 (some ⟨g2629, 0, none⟩) t2109.length n2617 t2109, b8 g1863 a1854 a1855 a1856, b8 g1866 a1857 a1858 0]) (rest := [])⟩⟩
                            · have AL2621 := if_no c2627 AL2621
                              have c2627b0 : decide (0 ≤ x2625) = false := decide_eq_false c2627
                              clear c2627
                              exact (none_no AL2621).elim
                          · have AL2621 := if_no c2626 AL2621
                            have c2626b0 : decide (x2625 < (t2109.length : Int)) = false := decide_eq_false c2626
                            clear c2626
                            have ho := some_eq AL2621
                            subst ho
                            clear AL2621
                            have hc2633 : w2622.cell? ⟨g1863, 0, none⟩ = some (.int .u8 a1854) := blk_cellv (HS.out.at4) 0 rfl
                            have hc2634 : w2622.cell? ⟨g1863, 1, none⟩ = some (.int .i64 a1855) := blk_cellv (HS.out.at4) 1 rfl
                            have hc2635 : w2622.cell? ⟨g1863, 2, none⟩ = some (.int .i64 a1856) := blk_cellv (HS.out.at4) 2 rfl
                            go_wp2_with fail
                            clear hc2633 hc2634 hc2635
                            obtain ⟨t2249, HA2636, H⟩ := bind_some H
                            refine (quitrentlaw05_get.calls t2105.2.2 t2105.2.1 t1876.1 t1876.2.1 t1876.2.2.1 t1876.2.2.2.1 a1854 a1855 a1856 g1894 g1895 A1896 ((t1876.2.2.2.2).length) n1898 t2249 _ ⟨HS.out.begin (l := [b7 g1894 g1895 t1876.1 t1876.2.1 t1876.2.2.1 t1876.2.2.2.1, b6 g1895 A1896 ((t1876.2.2.2.2).length) n1898 t2105.2.1, r2 A1896 ((t1876.2.2.2.2).length) n1898 t2105.2.2]) (rest := [r2 A2615 t2109.length n2617 t2109, b8 g1863 a1854 a1855 a1856, b8 g1866 a1857 a1858 0])⟩ HA2636).mono ?_
                            rintro e_ w2637 ⟨rfl, hS⟩
                            replace HS : Aside0 (Sep (fps []) w [b7 g1894 g1895 t1876.1 t1876.2.1 t1876.2.2.1 t1876.2.2.2.1, b6 g1895 A1896 ((t1876.2.2.2.2).length) n1898 t2249.2, r2 A1896 ((t1876.2.2.2.2).length) n1898 t2105.2.2, r2 A2615 t2109.length n2617 t2109, b8 g1863 a1854 a1855 a1856, b8 g1866 a1857 a1858 0] w2637) := ⟨HS.out.call (l := [b7 g1894 g1895 t1876.1 t1876.2.1 t1876.2.2.1 t1876.2.2.2.1, b6 g1895 A1896 ((t1876.2.2.2.2).length) n1898 t2105.2.1, r2 A1896 ((t1876.2.2.2.2).length) n1898 t2105.2.2]) (rest := [r2 A2615 t2109.length n2617 t2109, b8 g1863 a1854 a1855 a1856, b8 g1866 a1857 a1858 0]) hS⟩
                            clear hS
                            by_cases c2638 : t2249.1 = 5
                            · have H := if_yes c2638 H
                              have c2638b0 : (t2249.1 == 5) = true := beq_iff_eq.mpr c2638
                              have c2638b1 : (t2249.1 != 5) = false := bne_eq_false_iff_eq.mpr c2638
                              clear c2638
                              have hc2639 : w2637.cell? ⟨g1866, 0, none⟩ = some (.int .u8 a1857) := blk_cellv (HS.out.at5) 0 rfl
                              have hc2640 : w2637.cell? ⟨g1866, 1, none⟩ = some (.int .i64 a1858) := blk_cellv (HS.out.at5) 1 rfl
                              have hc2641 : w2637.cell? ⟨g1866, 2, none⟩ = some (.int .i64 0) := blk_cellv (HS.out.at5) 2 rfl
                              go_wp2_with fail
                              clear hc2639 hc2640 hc2641
                              obtain ⟨t2256, HA2642, H⟩ := bind_some H
                              refine (quitrentlaw05_get.calls t2105.2.2 t2249.2 t1876.1 t1876.2.1 t1876.2.2.1 t1876.2.2.2.1 a1857 a1858 0 g1894 g1895 A1896 ((t1876.2.2.2.2).length) n1898 t2256 _ ⟨HS.out.begin (l := [b7 g1894 g1895 t1876.1 t1876.2.1 t1876.2.2.1 t1876.2.2.2.1, b6 g1895 A1896 ((t1876.2.2.2.2).length) n1898 t2249.2, r2 A1896 ((t1876.2.2.2.2).length) n1898 t2105.2.2]) (rest := [r2 A2615 t2109.length n2617 t2109, b8 g1863 a1854 a1855 a1856, b8 g1866 a1857 a1858 0])⟩ HA2642).mono ?_
                              rintro e_ w2643 ⟨rfl, hS⟩
                              replace HS : Aside0 (Sep (fps []) w [b7 g1894 g1895 t1876.1 t1876.2.1 t1876.2.2.1 t1876.2.2.2.1, b6 g1895 A1896 ((t1876.2.2.2.2).length) n1898 t2256.2, r2 A1896 ((t1876.2.2.2.2).length) n1898 t2105.2.2, r2 A2615 t2109.length n2617 t2109, b8 g1863 a1854 a1855 a1856, b8 g1866 a1857 a1858 0] w2643) := ⟨HS.out.call (l := [b7 g1894 g1895 t1876.1 t1876.2.1 t1876.2.2.1 t1876.2.2.2.1, b6 g1895 A1896 ((t1876.2.2.2.2).length) n1898 t2249.2, r2 A1896 ((t1876.2.2.2.2).length) n1898 t2105.2.2]) (rest := [r2 A2615 t2109.length n2617 t2109, b8 g1863 a1854 a1855 a1856, b8 g1866 a1857 a1858 0]) hS⟩
                              clear hS
                              by_cases c2644 : t2256.1 = 6
                              · have H := if_yes c2644 H
                                have c2644b0 : (t2256.1 == 6) = true := beq_iff_eq.mpr c2644
                                have c2644b1 : (t2256.1 != 6) = false := bne_eq_false_iff_eq.mpr c2644
                                clear c2644
                                by_cases c2645 : x2624 = 2
                                · have H := if_yes c2645 H
                                  have c2645b0 : (x2624 == 2) = true := beq_iff_eq.mpr c2645
                                  have c2645b1 : (x2624 != 2) = false := bne_eq_false_iff_eq.mpr c2645
                                  clear c2645
                                  go_wp2_with fail
                                  obtain ⟨t2261, HA2646, H⟩ := bind_some H
                                  refine (quitrentlaw05_begun.calls _ t2261 _ ⟨HS.out.begin (l := []) (rest := [b7 g1894 g1895 t1876.1 t1876.2.1 t1876.2.2.1 t1876.2.2.2.1, b6 g1895 A1896 ((t1876.2.2.2.2).length) n1898 t2256.2, r2 A1896 ((t1876.2.2.2.2).length) n1898 t2105.2.2, r2 A2615 t2109.length n2617 t2109, b8 g1863 a1854 a1855 a1856, b8 g1866 a1857 a1858 0])⟩ HA2646).mono ?_
                                  rintro e_ w2647 ⟨rfl, hS⟩
                                  replace HS : Aside0 (Sep (fps []) w [b7 g1894 g1895 t1876.1 t1876.2.1 t1876.2.2.1 t1876.2.2.2.1, b6 g1895 A1896 ((t1876.2.2.2.2).length) n1898 t2256.2, r2 A1896 ((t1876.2.2.2.2).length) n1898 t2105.2.2, r2 A2615 t2109.length n2617 t2109, b8 g1863 a1854 a1855 a1856, b8 g1866 a1857 a1858 0] w2647) := ⟨HS.out.call (l := []) (rest := [b7 g1894 g1895 t1876.1 t1876.2.1 t1876.2.2.1 t1876.2.2.2.1, b6 g1895 A1896 ((t1876.2.2.2.2).length) n1898 t2256.2, r2 A1896 ((t1876.2.2.2.2).length) n1898 t2105.2.2, r2 A2615 t2109.length n2617 t2109, b8 g1863 a1854 a1855 a1856, b8 g1866 a1857 a1858 0]) hS⟩
                                  clear hS
                                  replace HS : Aside0 (Sep (fps []) w [] w2647) := ⟨HS.out.sub (.cons _ (.cons _ (.cons _ (.cons _ (.cons _ (.cons _ .slnil))))))⟩
                                  go_wp2_with fail
                                  go_ret
                                  rw [← some_eq H]
                                  exact ⟨(by first | rfl | (simp [IntKind.wrap_u32]; done)), (HS.out).keep (l := []) (rest := [])⟩
                                · have H := if_no c2645 H
                                  have c2645b0 : (x2624 == 2) = false := beq_eq_false_iff_ne.mpr c2645
                                  have c2645b1 : (x2624 != 2) = true := bne_iff_ne.mpr c2645
                                  clear c2645
                                  replace HS : Aside0 (Sep (fps []) w [] w2643) := ⟨HS.out.sub (.cons _ (.cons _ (.cons _ (.cons _ (.cons _ (.cons _ .slnil))))))⟩
                                  go_wp2_with fail
                                  go_ret
                                  rw [← some_eq H]
                                  exact ⟨(by first | rfl | (simp [IntKind.wrap_u32]; done)), (HS.out).keep (l := []) (rest := [])⟩
                              · have H := if_no c2644 H
                                have c2644b0 : (t2256.1 == 6) = false := beq_eq_false_iff_ne.mpr c2644
                                have c2644b1 : (t2256.1 != 6) = true := bne_iff_ne.mpr c2644
                                clear c2644
                                replace HS : Aside0 (Sep (fps []) w [] w2643) := ⟨HS.out.sub (.cons _ (.cons _ (.cons _ (.cons _ (.cons _ (.cons _ .slnil))))))⟩
                                go_wp2_with fail
                                go_ret
                                rw [← some_eq H]
                                exact ⟨(by first | rfl | (simp [IntKind.wrap_u32]; done)), (HS.out).keep (l := []) (rest := [])⟩
                            · have H := if_no c2638 H
                              have c2638b0 : (t2249.1 == 5) = false := beq_eq_false_iff_ne.mpr c2638
                              have c2638b1 : (t2249.1 != 5) = true := bne_iff_ne.mpr c2638
                              clear c2638
                              replace HS : Aside0 (Sep (fps []) w [] w2637) := ⟨HS.out.sub (.cons _ (.cons _ (.cons _ (.cons _ (.cons _ (.cons _ .slnil))))))⟩
                              go_wp2_with fail
                              go_ret
                              rw [← some_eq H]
                              exact ⟨(by first | rfl | (simp [IntKind.wrap_u32]; done)), (HS.out).keep (l := []) (rest := [])⟩
                    · have H := if_no c2611 H
                      have c2611b0 : t2105.1 = false := by simpa using c2611
                      have c2611b1 : (!t2105.1) = true := by rw [c2611b0]; rfl
                      try rw [c2611b1]
                      clear c2611
                      go_wp2_with fail
                      obtain ⟨t2102, HA2664, H⟩ := bind_some H
                      refine (quitrentlaw05_begun.calls _ t2102 _ ⟨HS.out.begin (l := []) (rest := [b7 g1894 g1895 t1876.1 t1876.2.1 t1876.2.2.1 t1876.2.2.2.1, b6 g1895 A1896 ((t1876.2.2.2.2).length) n1898 t2105.2.1, r2 A1896 ((t1876.2.2.2.2).length) n1898 t2105.2.2, b8 g1863 a1854 a1855 a1856, b8 g1866 a1857 a1858 0])⟩ HA2664).mono ?_
                      rintro e_ w2665 ⟨rfl, hS⟩
                      replace HS : Aside0 (Sep (fps []) w [b7 g1894 g1895 t1876.1 t1876.2.1 t1876.2.2.1 t1876.2.2.2.1, b6 g1895 A1896 ((t1876.2.2.2.2).length) n1898 t2105.2.1, r2 A1896 ((t1876.2.2.2.2).length) n1898 t2105.2.2, b8 g1863 a1854 a1855 a1856, b8 g1866 a1857 a1858 0] w2665) := ⟨HS.out.call (l := []) (rest := [b7 g1894 g1895 t1876.1 t1876.2.1 t1876.2.2.1 t1876.2.2.2.1, b6 g1895 A1896 ((t1876.2.2.2.2).length) n1898 t2105.2.1, r2 A1896 ((t1876.2.2.2.2).length) n1898 t2105.2.2, b8 g1863 a1854 a1855 a1856, b8 g1866 a1857 a1858 0]) hS⟩
                      clear hS
                      replace HS : Aside0 (Sep (fps []) w [] w2665) := ⟨HS.out.sub (.cons _ (.cons _ (.cons _ (.cons _ (.cons _ .slnil)))))⟩
                      go_wp2_with fail
                      go_ret
                      rw [← some_eq H]
                      exact ⟨(by first | rfl | (simp [IntKind.wrap_u32]; done)), (HS.out).keep (l := []) (rest := [])⟩
                · have H := if_no c2547 H
                  have c2547b0 : (a1854 == a1857) = false := beq_eq_false_iff_ne.mpr c2547
                  have c2547b1 : (a1854 != a1857) = true := bne_iff_ne.mpr c2547
                  clear c2547
                  have hc2541 : w2539.cell? ⟨g1863, 0, none⟩ = some (.int .u8 a1854) := blk_cellv (HS.out.at3) 0 rfl
                  have hc2542 : w2539.cell? ⟨g1863, 1, none⟩ = some (.int .i64 a1855) := blk_cellv (HS.out.at3) 1 rfl
                  have hc2543 : w2539.cell? ⟨g1863, 2, none⟩ = some (.int .i64 a1856) := blk_cellv (HS.out.at3) 2 rfl
                  have hc2544 : w2539.cell? ⟨g1866, 0, none⟩ = some (.int .u8 a1857) := blk_cellv (HS.out.at4) 0 rfl
                  have hc2545 : w2539.cell? ⟨g1866, 1, none⟩ = some (.int .i64 a1858) := blk_cellv (HS.out.at4) 1 rfl
                  have hc2546 : w2539.cell? ⟨g1866, 2, none⟩ = some (.int .i64 0) := blk_cellv (HS.out.at4) 2 rfl
                  go_wp2_with fail
                  clear hc2541 hc2542 hc2543 hc2544 hc2545 hc2546
                  obtain ⟨t2105, HA2666, H⟩ := bind_some H
                  refine (quitrentlaw05_put.calls t2090.2.2 t2090.2.1 t1876.1 t1876.2.1 t1876.2.2.1 t1876.2.2.2.1 a1857 a1858 0 6 g1894 g1895 A1896 ((t1876.2.2.2.2).length) n1898 t2105 _ ⟨HS.out.begin (l := [b7 g1894 g1895 t1876.1 t1876.2.1 t1876.2.2.1 t1876.2.2.2.1, b6 g1895 A1896 ((t1876.2.2.2.2).length) n1898 t2090.2.1, r2 A1896 ((t1876.2.2.2.2).length) n1898 t2090.2.2]) (rest := [b8 g1863 a1854 a1855 a1856, b8 g1866 a1857 a1858 0])⟩ HA2666).mono ?_
                  rintro e_ w2667 ⟨rfl, hS⟩
                  replace HS : Aside0 (Sep (fps []) w [b7 g1894 g1895 t1876.1 t1876.2.1 t1876.2.2.1 t1876.2.2.2.1, b6 g1895 A1896 ((t1876.2.2.2.2).length) n1898 t2105.2.1, r2 A1896 ((t1876.2.2.2.2).length) n1898 t2105.2.2, b8 g1863 a1854 a1855 a1856, b8 g1866 a1857 a1858 0] w2667) := ⟨HS.out.call (l := [b7 g1894 g1895 t1876.1 t1876.2.1 t1876.2.2.1 t1876.2.2.2.1, b6 g1895 A1896 ((t1876.2.2.2.2).length) n1898 t2090.2.1, r2 A1896 ((t1876.2.2.2.2).length) n1898 t2090.2.2]) (rest := [b8 g1863 a1854 a1855 a1856, b8 g1866 a1857 a1858 0]) hS⟩
                  clear hS
                  by_cases c2668 : t2105.1 = true
                  · have H := if_yes c2668 H
                    have c2668b0 : t2105.1 = true := c2668
                    have c2668b1 : (!t2105.1) = false := by rw [c2668b0]; rfl
                    try rw [c2668b1]
                    clear c2668
                    go_wp2_with fail
                    obtain ⟨t2109, HA2669, H⟩ := bind_some H
                    refine (ground_Ground_Words.calls t2105.2.2 t2105.2.1 t1876.1 t1876.2.1 t1876.2.2.1 t1876.2.2.2.1 g1894 g1895 A1896 ((t1876.2.2.2.2).length) n1898 t2109 _ ⟨HS.out.begin (l := [b7 g1894 g1895 t1876.1 t1876.2.1 t1876.2.2.1 t1876.2.2.2.1, b6 g1895 A1896 ((t1876.2.2.2.2).length) n1898 t2105.2.1, r2 A1896 ((t1876.2.2.2.2).length) n1898 t2105.2.2]) (rest := [b8 g1863 a1854 a1855 a1856, b8 g1866 a1857 a1858 0])⟩ HA2669).mono ?_
                    rintro e_ w2670 ⟨A2672, m2673, n2674, rfl, hS⟩
                    replace HS : Aside0 (Sep (fps []) w [b7 g1894 g1895 t1876.1 t1876.2.1 t1876.2.2.1 t1876.2.2.2.1, b6 g1895 A1896 ((t1876.2.2.2.2).length) n1898 t2105.2.1, r2 A1896 ((t1876.2.2.2.2).length) n1898 t2105.2.2, r2 A2672 m2673 n2674 t2109, b8 g1863 a1854 a1855 a1856, b8 g1866 a1857 a1858 0] w2670) := ⟨HS.out.call (l := [b7 g1894 g1895 t1876.1 t1876.2.1 t1876.2.2.1 t1876.2.2.2.1, b6 g1895 A1896 ((t1876.2.2.2.2).length) n1898 t2105.2.1, r2 A1896 ((t1876.2.2.2.2).length) n1898 t2105.2.2]) (rest := [b8 g1863 a1854 a1855 a1856, b8 g1866 a1857 a1858 0]) hS⟩
                    clear hS
                    obtain rfl := (row_len (HS.out.at3)).symm
                    go_wp2_with fail
                    obtain ⟨o2677, AL2678, H⟩ := bind_some H
                    go_loopg [9, 70] k (fun kq v9 v70 wc => ∃ (x2681 : Int) (x2682 : Int), v9 = .int .i64 x2681 ∧ v70 = .int .i64 x2682 ∧ Aside0 (quitrentlaw05_GroundApart.lo7 kq t2109 x2681 x2682 = some o2677) ∧ Aside0 (Sep (fps []) w [b7 g1894 g1895 t1876.1 t1876.2.1 t1876.2.2.1 t1876.2.2.2.1, b6 g1895 A1896 ((t1876.2.2.2.2).length) n1898 t2105.2.1, r2 A1896 ((t1876.2.2.2.2).length) n1898 t2105.2.2, r2 A2672 t2109.length n2674 t2109, b8 g1863 a1854 a1855 a1856, b8 g1866 a1857 a1858 0] wc))
                    case atStart => exact ⟨(0), (0), (by first | rfl | (simp [IntKind.wrap_u32]; done)), (by first | rfl | (simp [IntKind.wrap_u32]; done)), AL2678, ⟨HS.out⟩⟩
                    case round =>
                      clear AL2678 HS
                      obtain ⟨x2681, x2682, rfl, rfl, AL2678, HS⟩ := hrel
                      obtain ⟨w2679, rfl⟩ : ∃ x : World, x = wr := ⟨_, rfl⟩
                      cases gk with
                      | zero => exact absurd AL2678.out (by simp [quitrentlaw05_GroundApart.lo7])
                      | succ k2680 =>
                        have AL0 := AL2678.out
                        rw [quitrentlaw05_GroundApart.lo7] at AL0
                        clear AL2678
                        have AL2678 := Aside0.mk AL0
                        clear AL0
                        by_cases c2683 : x2682 < (t2109.length : Int)
                        · have AL2678 := if_yes c2683 AL2678
                          have c2683b0 : decide (x2682 < (t2109.length : Int)) = true := decide_eq_true c2683
                          clear c2683
                          by_cases c2684 : 0 ≤ x2682
                          · have AL2678 := if_yes c2684 AL2678
                            have c2684b0 : decide (0 ≤ x2682) = true := decide_eq_true c2684
                            have c2684p : (0 ≤ x2682) = True := eq_true c2684
                            clear c2684
                            have ip2685 : (x2682 < (t2109.length : Int)) = True := eq_true (of_decide_eq_true c2683b0)
                            by_cases c2689 : (rd t2109 x2682) = 0
                            · have AL2678 := if_yes c2689 AL2678
                              have c2689b0 : ((rd t2109 x2682) == 0) = true := beq_iff_eq.mpr c2689
                              have c2689b1 : ((rd t2109 x2682) != 0) = false := bne_eq_false_iff_eq.mpr c2689
                              clear c2689
                              obtain ⟨g2686, ea⟩ := row_at (HS.out.at3) (by have := (of_decide_eq_true c2684b0); have := (of_decide_eq_true c2683b0); omega); cases ea
                              have hx2687 := C_at_int (row_Ci (HS.out.at3)) x2682 (of_decide_eq_true c2684b0) (of_decide_eq_true c2683b0)
                              have hx2688 : w2679.cell? ⟨g2686, (x2682).toNat, none⟩ = some (.int .u32 (rd t2109 x2682)) := (row_get 0 (HS.out.at3) x2682 (of_decide_eq_true c2684b0) (of_decide_eq_true c2683b0)).1
                              go_wp2_with fail
                              clear hx2687 hx2688
                              go_roundg k2680
                              case measure => exact Nat.lt_succ_self _
                              case rel => exact ⟨(x2681), (wrap64 (x2682 + 1)), (by first | rfl | (simp [IntKind.wrap_u32]; done)), (by first | rfl | (simp [IntKind.wrap_u32]; done)), Aside0.mk AL2678.out, ⟨(((((((HS.out).front 5 (by simp)).front 5 (by simp)).front 5 (by simp)).front 5 (by simp)).front 5 (by simp)).front 5 (by simp)).keep (l := [b7 g1894 g1895 t1876.1 t1876.2.1 t1876.2.2.1 t1876.2.2.2.1, b6 g1895 A1896 ((t1876.2.2.2.2).length) n1898 t2105.2.1, r2 A1896 ((t1876.2.2.2.2).length) n1898 t2105.2.2, r2 (some ⟨g2686, 0, none⟩) t2109.length n2674 t2109, b8 g1863 a1854 a1855 a1856, b8 g1866 a1857 a1858 0]) (rest := [])⟩⟩
                            · have AL2678 := if_no c2689 AL2678
                              have c2689b0 : ((rd t2109 x2682) == 0) = false := beq_eq_false_iff_ne.mpr c2689
                              have c2689b1 : ((rd t2109 x2682) != 0) = true := bne_iff_ne.mpr c2689
                              clear c2689
                              obtain ⟨g2686, ea⟩ := row_at (HS.out.at3) (by have := (of_decide_eq_true c2684b0); have := (of_decide_eq_true c2683b0); omega); cases ea
                              have hx2687 := C_at_int (row_Ci (HS.out.at3)) x2682 (of_decide_eq_true c2684b0) (of_decide_eq_true c2683b0)
                              have hx2688 : w2679.cell? ⟨g2686, (x2682).toNat, none⟩ = some (.int .u32 (rd t2109 x2682)) := (row_get 0 (HS.out.at3) x2682 (of_decide_eq_true c2684b0) (of_decide_eq_true c2683b0)).1
                              go_wp2_with fail
                              clear hx2687 hx2688
                              go_roundg k2680
                              case measure => exact Nat.lt_succ_self _
                              case rel => exact ⟨(wrap64 (x2681 + 1)), (wrap64 (x2682 + 1)), (by first | rfl | (simp [IntKind.wrap_u32]; done)), (by first | rfl | (simp [IntKind.wrap_u32]; done)), Aside0.mk AL2678.out, ⟨(((((((HS.out).front 5 (by simp)).front 5 (by simp)).front 5 (by simp)).front 5 (by simp)).front 5 (by simp)).front 5 (by simp)).keep (l := [b7 g1894 g1895 t1876.1 t1876.2.1 t1876.2.2.1 t1876.2.2.2.1, b6 g1895 A1896 ((t1876.2.2.2.2).length) n1898 t2105.2.1, r2 A1896 ((t1876.2.2.2.2).length) n1898 t2105.2.2, r2 (some ⟨g2686, 0, none⟩) t2109.length n2674 t2109, b8 g1863 a1854 a1855 a1856, b8 g1866 a1857 a1858 0]) (rest := [])⟩⟩
                          · have AL2678 := if_no c2684 AL2678
                            have c2684b0 : decide (0 ≤ x2682) = false := decide_eq_false c2684
                            clear c2684
                            exact (none_no AL2678).elim
                        · have AL2678 := if_no c2683 AL2678
                          have c2683b0 : decide (x2682 < (t2109.length : Int)) = false := decide_eq_false c2683
                          clear c2683
                          have ho := some_eq AL2678
                          subst ho
                          clear AL2678
                          have hc2690 : w2679.cell? ⟨g1863, 0, none⟩ = some (.int .u8 a1854) := blk_cellv (HS.out.at4) 0 rfl
                          have hc2691 : w2679.cell? ⟨g1863, 1, none⟩ = some (.int .i64 a1855) := blk_cellv (HS.out.at4) 1 rfl
                          have hc2692 : w2679.cell? ⟨g1863, 2, none⟩ = some (.int .i64 a1856) := blk_cellv (HS.out.at4) 2 rfl
                          go_wp2_with fail
                          clear hc2690 hc2691 hc2692
                          obtain ⟨t2249, HA2693, H⟩ := bind_some H
                          refine (quitrentlaw05_get.calls t2105.2.2 t2105.2.1 t1876.1 t1876.2.1 t1876.2.2.1 t1876.2.2.2.1 a1854 a1855 a1856 g1894 g1895 A1896 ((t1876.2.2.2.2).length) n1898 t2249 _ ⟨HS.out.begin (l := [b7 g1894 g1895 t1876.1 t1876.2.1 t1876.2.2.1 t1876.2.2.2.1, b6 g1895 A1896 ((t1876.2.2.2.2).length) n1898 t2105.2.1, r2 A1896 ((t1876.2.2.2.2).length) n1898 t2105.2.2]) (rest := [r2 A2672 t2109.length n2674 t2109, b8 g1863 a1854 a1855 a1856, b8 g1866 a1857 a1858 0])⟩ HA2693).mono ?_
                          rintro e_ w2694 ⟨rfl, hS⟩
                          replace HS : Aside0 (Sep (fps []) w [b7 g1894 g1895 t1876.1 t1876.2.1 t1876.2.2.1 t1876.2.2.2.1, b6 g1895 A1896 ((t1876.2.2.2.2).length) n1898 t2249.2, r2 A1896 ((t1876.2.2.2.2).length) n1898 t2105.2.2, r2 A2672 t2109.length n2674 t2109, b8 g1863 a1854 a1855 a1856, b8 g1866 a1857 a1858 0] w2694) := ⟨HS.out.call (l := [b7 g1894 g1895 t1876.1 t1876.2.1 t1876.2.2.1 t1876.2.2.2.1, b6 g1895 A1896 ((t1876.2.2.2.2).length) n1898 t2105.2.1, r2 A1896 ((t1876.2.2.2.2).length) n1898 t2105.2.2]) (rest := [r2 A2672 t2109.length n2674 t2109, b8 g1863 a1854 a1855 a1856, b8 g1866 a1857 a1858 0]) hS⟩
                          clear hS
                          by_cases c2695 : t2249.1 = 5
                          · have H := if_yes c2695 H
                            have c2695b0 : (t2249.1 == 5) = true := beq_iff_eq.mpr c2695
                            have c2695b1 : (t2249.1 != 5) = false := bne_eq_false_iff_eq.mpr c2695
                            clear c2695
                            have hc2696 : w2694.cell? ⟨g1866, 0, none⟩ = some (.int .u8 a1857) := blk_cellv (HS.out.at5) 0 rfl
                            have hc2697 : w2694.cell? ⟨g1866, 1, none⟩ = some (.int .i64 a1858) := blk_cellv (HS.out.at5) 1 rfl
                            have hc2698 : w2694.cell? ⟨g1866, 2, none⟩ = some (.int .i64 0) := blk_cellv (HS.out.at5) 2 rfl
                            go_wp2_with fail
                            clear hc2696 hc2697 hc2698
                            obtain ⟨t2256, HA2699, H⟩ := bind_some H
                            refine (quitrentlaw05_get.calls t2105.2.2 t2249.2 t1876.1 t1876.2.1 t1876.2.2.1 t1876.2.2.2.1 a1857 a1858 0 g1894 g1895 A1896 ((t1876.2.2.2.2).length) n1898 t2256 _ ⟨HS.out.begin (l := [b7 g1894 g1895 t1876.1 t1876.2.1 t1876.2.2.1 t1876.2.2.2.1, b6 g1895 A1896 ((t1876.2.2.2.2).length) n1898 t2249.2, r2 A1896 ((t1876.2.2.2.2).length) n1898 t2105.2.2]) (rest := [r2 A2672 t2109.length n2674 t2109, b8 g1863 a1854 a1855 a1856, b8 g1866 a1857 a1858 0])⟩ HA2699).mono ?_
                            rintro e_ w2700 ⟨rfl, hS⟩
                            replace HS : Aside0 (Sep (fps []) w [b7 g1894 g1895 t1876.1 t1876.2.1 t1876.2.2.1 t1876.2.2.2.1, b6 g1895 A1896 ((t1876.2.2.2.2).length) n1898 t2256.2, r2 A1896 ((t1876.2.2.2.2).length) n1898 t2105.2.2, r2 A2672 t2109.length n2674 t2109, b8 g1863 a1854 a1855 a1856, b8 g1866 a1857 a1858 0] w2700) := ⟨HS.out.call (l := [b7 g1894 g1895 t1876.1 t1876.2.1 t1876.2.2.1 t1876.2.2.2.1, b6 g1895 A1896 ((t1876.2.2.2.2).length) n1898 t2249.2, r2 A1896 ((t1876.2.2.2.2).length) n1898 t2105.2.2]) (rest := [r2 A2672 t2109.length n2674 t2109, b8 g1863 a1854 a1855 a1856, b8 g1866 a1857 a1858 0]) hS⟩
                            clear hS
                            by_cases c2701 : t2256.1 = 6
                            · have H := if_yes c2701 H
                              have c2701b0 : (t2256.1 == 6) = true := beq_iff_eq.mpr c2701
                              have c2701b1 : (t2256.1 != 6) = false := bne_eq_false_iff_eq.mpr c2701
                              clear c2701
                              by_cases c2702 : x2681 = 2
                              · have H := if_yes c2702 H
                                have c2702b0 : (x2681 == 2) = true := beq_iff_eq.mpr c2702
                                have c2702b1 : (x2681 != 2) = false := bne_eq_false_iff_eq.mpr c2702
                                clear c2702
                                go_wp2_with fail
                                obtain ⟨t2261, HA2703, H⟩ := bind_some H
                                refine (quitrentlaw05_begun.calls _ t2261 _ ⟨HS.out.begin (l := []) (rest := [b7 g1894 g1895 t1876.1 t1876.2.1 t1876.2.2.1 t1876.2.2.2.1, b6 g1895 A1896 ((t1876.2.2.2.2).length) n1898 t2256.2, r2 A1896 ((t1876.2.2.2.2).length) n1898 t2105.2.2, r2 A2672 t2109.length n2674 t2109, b8 g1863 a1854 a1855 a1856, b8 g1866 a1857 a1858 0])⟩ HA2703).mono ?_
                                rintro e_ w2704 ⟨rfl, hS⟩
                                replace HS : Aside0 (Sep (fps []) w [b7 g1894 g1895 t1876.1 t1876.2.1 t1876.2.2.1 t1876.2.2.2.1, b6 g1895 A1896 ((t1876.2.2.2.2).length) n1898 t2256.2, r2 A1896 ((t1876.2.2.2.2).length) n1898 t2105.2.2, r2 A2672 t2109.length n2674 t2109, b8 g1863 a1854 a1855 a1856, b8 g1866 a1857 a1858 0] w2704) := ⟨HS.out.call (l := []) (rest := [b7 g1894 g1895 t1876.1 t1876.2.1 t1876.2.2.1 t1876.2.2.2.1, b6 g1895 A1896 ((t1876.2.2.2.2).length) n1898 t2256.2, r2 A1896 ((t1876.2.2.2.2).length) n1898 t2105.2.2, r2 A2672 t2109.length n2674 t2109, b8 g1863 a1854 a1855 a1856, b8 g1866 a1857 a1858 0]) hS⟩
                                clear hS
                                replace HS : Aside0 (Sep (fps []) w [] w2704) := ⟨HS.out.sub (.cons _ (.cons _ (.cons _ (.cons _ (.cons _ (.cons _ .slnil))))))⟩
                                go_wp2_with fail
                                go_ret
                                rw [← some_eq H]
                                exact ⟨(by first | rfl | (simp [IntKind.wrap_u32]; done)), (HS.out).keep (l := []) (rest := [])⟩
                              · have H := if_no c2702 H
                                have c2702b0 : (x2681 == 2) = false := beq_eq_false_iff_ne.mpr c2702
                                have c2702b1 : (x2681 != 2) = true := bne_iff_ne.mpr c2702
                                clear c2702
                                replace HS : Aside0 (Sep (fps []) w [] w2700) := ⟨HS.out.sub (.cons _ (.cons _ (.cons _ (.cons _ (.cons _ (.cons _ .slnil))))))⟩
                                go_wp2_with fail
                                go_ret
                                rw [← some_eq H]
                                exact ⟨(by first | rfl | (simp [IntKind.wrap_u32]; done)), (HS.out).keep (l := []) (rest := [])⟩
                            · have H := if_no c2701 H
                              have c2701b0 : (t2256.1 == 6) = false := beq_eq_false_iff_ne.mpr c2701
                              have c2701b1 : (t2256.1 != 6) = true := bne_iff_ne.mpr c2701
                              clear c2701
                              replace HS : Aside0 (Sep (fps []) w [] w2700) := ⟨HS.out.sub (.cons _ (.cons _ (.cons _ (.cons _ (.cons _ (.cons _ .slnil))))))⟩
                              go_wp2_with fail
                              go_ret
                              rw [← some_eq H]
                              exact ⟨(by first | rfl | (simp [IntKind.wrap_u32]; done)), (HS.out).keep (l := []) (rest := [])⟩
                          · have H := if_no c2695 H
                            have c2695b0 : (t2249.1 == 5) = false := beq_eq_false_iff_ne.mpr c2695
                            have c2695b1 : (t2249.1 != 5) = true := bne_iff_ne.mpr c2695
                            clear c2695
                            replace HS : Aside0 (Sep (fps []) w [] w2694) := ⟨HS.out.sub (.cons _ (.cons _ (.cons _ (.cons _ (.cons _ (.cons _ .slnil))))))⟩
                            go_wp2_with fail
                            go_ret
                            rw [← some_eq H]
                            exact ⟨(by first | rfl | (simp [IntKind.wrap_u32]; done)), (HS.out).keep (l := []) (rest := [])⟩
                  · have H := if_no c2668 H
                    have c2668b0 : t2105.1 = false := by simpa using c2668
                    have c2668b1 : (!t2105.1) = true := by rw [c2668b0]; rfl
                    try rw [c2668b1]
                    clear c2668
                    go_wp2_with fail
                    obtain ⟨t2102, HA2721, H⟩ := bind_some H
                    refine (quitrentlaw05_begun.calls _ t2102 _ ⟨HS.out.begin (l := []) (rest := [b7 g1894 g1895 t1876.1 t1876.2.1 t1876.2.2.1 t1876.2.2.2.1, b6 g1895 A1896 ((t1876.2.2.2.2).length) n1898 t2105.2.1, r2 A1896 ((t1876.2.2.2.2).length) n1898 t2105.2.2, b8 g1863 a1854 a1855 a1856, b8 g1866 a1857 a1858 0])⟩ HA2721).mono ?_
                    rintro e_ w2722 ⟨rfl, hS⟩
                    replace HS : Aside0 (Sep (fps []) w [b7 g1894 g1895 t1876.1 t1876.2.1 t1876.2.2.1 t1876.2.2.2.1, b6 g1895 A1896 ((t1876.2.2.2.2).length) n1898 t2105.2.1, r2 A1896 ((t1876.2.2.2.2).length) n1898 t2105.2.2, b8 g1863 a1854 a1855 a1856, b8 g1866 a1857 a1858 0] w2722) := ⟨HS.out.call (l := []) (rest := [b7 g1894 g1895 t1876.1 t1876.2.1 t1876.2.2.1 t1876.2.2.2.1, b6 g1895 A1896 ((t1876.2.2.2.2).length) n1898 t2105.2.1, r2 A1896 ((t1876.2.2.2.2).length) n1898 t2105.2.2, b8 g1863 a1854 a1855 a1856, b8 g1866 a1857 a1858 0]) hS⟩
                    clear hS
                    replace HS : Aside0 (Sep (fps []) w [] w2722) := ⟨HS.out.sub (.cons _ (.cons _ (.cons _ (.cons _ (.cons _ .slnil)))))⟩
                    go_wp2_with fail
                    go_ret
                    rw [← some_eq H]
                    exact ⟨(by first | rfl | (simp [IntKind.wrap_u32]; done)), (HS.out).keep (l := []) (rest := [])⟩
              · have H := if_no c2540 H
                have c2540b0 : t2090.1 = false := by simpa using c2540
                have c2540b1 : (!t2090.1) = true := by rw [c2540b0]; rfl
                try rw [c2540b1]
                clear c2540
                go_wp2_with fail
                obtain ⟨t2102, HA2723, H⟩ := bind_some H
                refine (quitrentlaw05_begun.calls _ t2102 _ ⟨HS.out.begin (l := []) (rest := [b7 g1894 g1895 t1876.1 t1876.2.1 t1876.2.2.1 t1876.2.2.2.1, b6 g1895 A1896 ((t1876.2.2.2.2).length) n1898 t2090.2.1, r2 A1896 ((t1876.2.2.2.2).length) n1898 t2090.2.2, b8 g1863 a1854 a1855 a1856, b8 g1866 a1857 a1858 0])⟩ HA2723).mono ?_
                rintro e_ w2724 ⟨rfl, hS⟩
                replace HS : Aside0 (Sep (fps []) w [b7 g1894 g1895 t1876.1 t1876.2.1 t1876.2.2.1 t1876.2.2.2.1, b6 g1895 A1896 ((t1876.2.2.2.2).length) n1898 t2090.2.1, r2 A1896 ((t1876.2.2.2.2).length) n1898 t2090.2.2, b8 g1863 a1854 a1855 a1856, b8 g1866 a1857 a1858 0] w2724) := ⟨HS.out.call (l := []) (rest := [b7 g1894 g1895 t1876.1 t1876.2.1 t1876.2.2.1 t1876.2.2.2.1, b6 g1895 A1896 ((t1876.2.2.2.2).length) n1898 t2090.2.1, r2 A1896 ((t1876.2.2.2.2).length) n1898 t2090.2.2, b8 g1863 a1854 a1855 a1856, b8 g1866 a1857 a1858 0]) hS⟩
                clear hS
                replace HS : Aside0 (Sep (fps []) w [] w2724) := ⟨HS.out.sub (.cons _ (.cons _ (.cons _ (.cons _ (.cons _ .slnil)))))⟩
                go_wp2_with fail
                go_ret
                rw [← some_eq H]
                exact ⟨(by first | rfl | (simp [IntKind.wrap_u32]; done)), (HS.out).keep (l := []) (rest := [])⟩
            · have H := if_no c2531 H
              have c2531b0 : decide (a1857 < 2) = false := decide_eq_false c2531
              clear c2531
              have hc1908 : w1906.cell? ⟨g1863, 0, none⟩ = some (.int .u8 a1854) := blk_cellv (HS.out.at4) 0 rfl
              have hc1913 : w1906.cell? ⟨g1866, 0, none⟩ = some (.int .u8 a1857) := blk_cellv (HS.out.at5) 0 rfl
              replace HS : Aside0 (Sep (fps []) w [b7 g1894 g1895 t1876.1 t1876.2.1 t1876.2.2.1 t1876.2.2.2.1, b6 g1895 A1896 ((t1876.2.2.2.2).length) n1898 0, r2 A1896 ((t1876.2.2.2.2).length) n1898 t1876.2.2.2.2, b8 g1863 a1854 a1855 a1856, b8 g1866 a1857 a1858 a1859] w1906) := ⟨HS.out.sub (.cons_cons _ (.cons_cons _ (.cons_cons _ (.cons _ (.cons_cons _ (.cons_cons _ .slnil))))))⟩
              have hc2725 : w1906.cell? ⟨g1863, 1, none⟩ = some (.int .i64 a1855) := blk_cellv (HS.out.at3) 1 rfl
              have hc2726 : w1906.cell? ⟨g1863, 2, none⟩ = some (.int .i64 a1856) := blk_cellv (HS.out.at3) 2 rfl
              go_wp2_with fail
              clear hc1908 hc1913 hc2725 hc2726
              obtain ⟨t2090, HA2727, H⟩ := bind_some H
              refine (quitrentlaw05_put.calls t1876.2.2.2.2 0 t1876.1 t1876.2.1 t1876.2.2.1 t1876.2.2.2.1 a1854 a1855 a1856 5 g1894 g1895 A1896 ((t1876.2.2.2.2).length) n1898 t2090 _ ⟨HS.out.begin (l := [b7 g1894 g1895 t1876.1 t1876.2.1 t1876.2.2.1 t1876.2.2.2.1, b6 g1895 A1896 ((t1876.2.2.2.2).length) n1898 0, r2 A1896 ((t1876.2.2.2.2).length) n1898 t1876.2.2.2.2]) (rest := [b8 g1863 a1854 a1855 a1856, b8 g1866 a1857 a1858 a1859])⟩ HA2727).mono ?_
              rintro e_ w2728 ⟨rfl, hS⟩
              replace HS : Aside0 (Sep (fps []) w [b7 g1894 g1895 t1876.1 t1876.2.1 t1876.2.2.1 t1876.2.2.2.1, b6 g1895 A1896 ((t1876.2.2.2.2).length) n1898 t2090.2.1, r2 A1896 ((t1876.2.2.2.2).length) n1898 t2090.2.2, b8 g1863 a1854 a1855 a1856, b8 g1866 a1857 a1858 a1859] w2728) := ⟨HS.out.call (l := [b7 g1894 g1895 t1876.1 t1876.2.1 t1876.2.2.1 t1876.2.2.2.1, b6 g1895 A1896 ((t1876.2.2.2.2).length) n1898 0, r2 A1896 ((t1876.2.2.2.2).length) n1898 t1876.2.2.2.2]) (rest := [b8 g1863 a1854 a1855 a1856, b8 g1866 a1857 a1858 a1859]) hS⟩
              clear hS
              by_cases c2729 : t2090.1 = true
              · have H := if_yes c2729 H
                have c2729b0 : t2090.1 = true := c2729
                have c2729b1 : (!t2090.1) = false := by rw [c2729b0]; rfl
                try rw [c2729b1]
                clear c2729
                by_cases c2736 : a1854 = a1857
                · have H := if_yes c2736 H
                  have c2736b0 : (a1854 == a1857) = true := beq_iff_eq.mpr c2736
                  have c2736b1 : (a1854 != a1857) = false := bne_eq_false_iff_eq.mpr c2736
                  clear c2736
                  by_cases c2737 : a1855 = a1858
                  · have H := if_yes c2737 H
                    have c2737b0 : (a1855 == a1858) = true := beq_iff_eq.mpr c2737
                    have c2737b1 : (a1855 != a1858) = false := bne_eq_false_iff_eq.mpr c2737
                    clear c2737
                    by_cases c2738 : a1856 = a1859
                    · have H := if_yes c2738 H
                      have c2738b0 : (a1856 == a1859) = true := beq_iff_eq.mpr c2738
                      have c2738b1 : (a1856 != a1859) = false := bne_eq_false_iff_eq.mpr c2738
                      clear c2738
                      have hc2730 : w2728.cell? ⟨g1863, 0, none⟩ = some (.int .u8 a1854) := blk_cellv (HS.out.at3) 0 rfl
                      have hc2731 : w2728.cell? ⟨g1863, 1, none⟩ = some (.int .i64 a1855) := blk_cellv (HS.out.at3) 1 rfl
                      have hc2732 : w2728.cell? ⟨g1863, 2, none⟩ = some (.int .i64 a1856) := blk_cellv (HS.out.at3) 2 rfl
                      have hc2733 : w2728.cell? ⟨g1866, 0, none⟩ = some (.int .u8 a1857) := blk_cellv (HS.out.at4) 0 rfl
                      have hc2734 : w2728.cell? ⟨g1866, 1, none⟩ = some (.int .i64 a1858) := blk_cellv (HS.out.at4) 1 rfl
                      have hc2735 : w2728.cell? ⟨g1866, 2, none⟩ = some (.int .i64 a1859) := blk_cellv (HS.out.at4) 2 rfl
                      go_wp2_with fail
                      clear hc2730 hc2731 hc2732 hc2733 hc2734 hc2735
                      obtain ⟨t2102, HA2739, H⟩ := bind_some H
                      refine (quitrentlaw05_begun.calls _ t2102 _ ⟨HS.out.begin (l := []) (rest := [b7 g1894 g1895 t1876.1 t1876.2.1 t1876.2.2.1 t1876.2.2.2.1, b6 g1895 A1896 ((t1876.2.2.2.2).length) n1898 t2090.2.1, r2 A1896 ((t1876.2.2.2.2).length) n1898 t2090.2.2, b8 g1863 a1854 a1855 a1856, b8 g1866 a1857 a1858 a1859])⟩ HA2739).mono ?_
                      rintro e_ w2740 ⟨rfl, hS⟩
                      replace HS : Aside0 (Sep (fps []) w [b7 g1894 g1895 t1876.1 t1876.2.1 t1876.2.2.1 t1876.2.2.2.1, b6 g1895 A1896 ((t1876.2.2.2.2).length) n1898 t2090.2.1, r2 A1896 ((t1876.2.2.2.2).length) n1898 t2090.2.2, b8 g1863 a1854 a1855 a1856, b8 g1866 a1857 a1858 a1859] w2740) := ⟨HS.out.call (l := []) (rest := [b7 g1894 g1895 t1876.1 t1876.2.1 t1876.2.2.1 t1876.2.2.2.1, b6 g1895 A1896 ((t1876.2.2.2.2).length) n1898 t2090.2.1, r2 A1896 ((t1876.2.2.2.2).length) n1898 t2090.2.2, b8 g1863 a1854 a1855 a1856, b8 g1866 a1857 a1858 a1859]) hS⟩
                      clear hS
                      replace HS : Aside0 (Sep (fps []) w [] w2740) := ⟨HS.out.sub (.cons _ (.cons _ (.cons _ (.cons _ (.cons _ .slnil)))))⟩
                      go_wp2_with fail
                      go_ret
                      rw [← some_eq H]
                      exact ⟨(by first | rfl | (simp [IntKind.wrap_u32]; done)), (HS.out).keep (l := []) (rest := [])⟩
                    · have H := if_no c2738 H
                      have c2738b0 : (a1856 == a1859) = false := beq_eq_false_iff_ne.mpr c2738
                      have c2738b1 : (a1856 != a1859) = true := bne_iff_ne.mpr c2738
                      clear c2738
                      have hc2730 : w2728.cell? ⟨g1863, 0, none⟩ = some (.int .u8 a1854) := blk_cellv (HS.out.at3) 0 rfl
                      have hc2731 : w2728.cell? ⟨g1863, 1, none⟩ = some (.int .i64 a1855) := blk_cellv (HS.out.at3) 1 rfl
                      have hc2732 : w2728.cell? ⟨g1863, 2, none⟩ = some (.int .i64 a1856) := blk_cellv (HS.out.at3) 2 rfl
                      have hc2733 : w2728.cell? ⟨g1866, 0, none⟩ = some (.int .u8 a1857) := blk_cellv (HS.out.at4) 0 rfl
                      have hc2734 : w2728.cell? ⟨g1866, 1, none⟩ = some (.int .i64 a1858) := blk_cellv (HS.out.at4) 1 rfl
                      have hc2735 : w2728.cell? ⟨g1866, 2, none⟩ = some (.int .i64 a1859) := blk_cellv (HS.out.at4) 2 rfl
                      go_wp2_with fail
                      clear hc2730 hc2731 hc2732 hc2733 hc2734 hc2735
                      obtain ⟨t2105, HA2741, H⟩ := bind_some H
                      refine (quitrentlaw05_put.calls t2090.2.2 t2090.2.1 t1876.1 t1876.2.1 t1876.2.2.1 t1876.2.2.2.1 a1857 a1858 a1859 6 g1894 g1895 A1896 ((t1876.2.2.2.2).length) n1898 t2105 _ ⟨HS.out.begin (l := [b7 g1894 g1895 t1876.1 t1876.2.1 t1876.2.2.1 t1876.2.2.2.1, b6 g1895 A1896 ((t1876.2.2.2.2).length) n1898 t2090.2.1, r2 A1896 ((t1876.2.2.2.2).length) n1898 t2090.2.2]) (rest := [b8 g1863 a1854 a1855 a1856, b8 g1866 a1857 a1858 a1859])⟩ HA2741).mono ?_
                      rintro e_ w2742 ⟨rfl, hS⟩
                      replace HS : Aside0 (Sep (fps []) w [b7 g1894 g1895 t1876.1 t1876.2.1 t1876.2.2.1 t1876.2.2.2.1, b6 g1895 A1896 ((t1876.2.2.2.2).length) n1898 t2105.2.1, r2 A1896 ((t1876.2.2.2.2).length) n1898 t2105.2.2, b8 g1863 a1854 a1855 a1856, b8 g1866 a1857 a1858 a1859] w2742) := ⟨HS.out.call (l := [b7 g1894 g1895 t1876.1 t1876.2.1 t1876.2.2.1 t1876.2.2.2.1, b6 g1895 A1896 ((t1876.2.2.2.2).length) n1898 t2090.2.1, r2 A1896 ((t1876.2.2.2.2).length) n1898 t2090.2.2]) (rest := [b8 g1863 a1854 a1855 a1856, b8 g1866 a1857 a1858 a1859]) hS⟩
                      clear hS
                      by_cases c2743 : t2105.1 = true
                      · have H := if_yes c2743 H
                        have c2743b0 : t2105.1 = true := c2743
                        have c2743b1 : (!t2105.1) = false := by rw [c2743b0]; rfl
                        try rw [c2743b1]
                        clear c2743
                        go_wp2_with fail
                        obtain ⟨t2109, HA2744, H⟩ := bind_some H
                        refine (ground_Ground_Words.calls t2105.2.2 t2105.2.1 t1876.1 t1876.2.1 t1876.2.2.1 t1876.2.2.2.1 g1894 g1895 A1896 ((t1876.2.2.2.2).length) n1898 t2109 _ ⟨HS.out.begin (l := [b7 g1894 g1895 t1876.1 t1876.2.1 t1876.2.2.1 t1876.2.2.2.1, b6 g1895 A1896 ((t1876.2.2.2.2).length) n1898 t2105.2.1, r2 A1896 ((t1876.2.2.2.2).length) n1898 t2105.2.2]) (rest := [b8 g1863 a1854 a1855 a1856, b8 g1866 a1857 a1858 a1859])⟩ HA2744).mono ?_
                        rintro e_ w2745 ⟨A2747, m2748, n2749, rfl, hS⟩
                        replace HS : Aside0 (Sep (fps []) w [b7 g1894 g1895 t1876.1 t1876.2.1 t1876.2.2.1 t1876.2.2.2.1, b6 g1895 A1896 ((t1876.2.2.2.2).length) n1898 t2105.2.1, r2 A1896 ((t1876.2.2.2.2).length) n1898 t2105.2.2, r2 A2747 m2748 n2749 t2109, b8 g1863 a1854 a1855 a1856, b8 g1866 a1857 a1858 a1859] w2745) := ⟨HS.out.call (l := [b7 g1894 g1895 t1876.1 t1876.2.1 t1876.2.2.1 t1876.2.2.2.1, b6 g1895 A1896 ((t1876.2.2.2.2).length) n1898 t2105.2.1, r2 A1896 ((t1876.2.2.2.2).length) n1898 t2105.2.2]) (rest := [b8 g1863 a1854 a1855 a1856, b8 g1866 a1857 a1858 a1859]) hS⟩
                        clear hS
                        obtain rfl := (row_len (HS.out.at3)).symm
                        go_wp2_with fail
                        obtain ⟨o2752, AL2753, H⟩ := bind_some H
                        go_loopg [9, 70] k (fun kq v9 v70 wc => ∃ (x2756 : Int) (x2757 : Int), v9 = .int .i64 x2756 ∧ v70 = .int .i64 x2757 ∧ Aside0 (quitrentlaw05_GroundApart.lo8 kq t2109 x2756 x2757 = some o2752) ∧ Aside0 (Sep (fps []) w [b7 g1894 g1895 t1876.1 t1876.2.1 t1876.2.2.1 t1876.2.2.2.1, b6 g1895 A1896 ((t1876.2.2.2.2).length) n1898 t2105.2.1, r2 A1896 ((t1876.2.2.2.2).length) n1898 t2105.2.2, r2 A2747 t2109.length n2749 t2109, b8 g1863 a1854 a1855 a1856, b8 g1866 a1857 a1858 a1859] wc))
                        case atStart => exact ⟨(0), (0), (by first | rfl | (simp [IntKind.wrap_u32]; done)), (by first | rfl | (simp [IntKind.wrap_u32]; done)), AL2753, ⟨HS.out⟩⟩
                        case round =>
                          clear AL2753 HS
                          obtain ⟨x2756, x2757, rfl, rfl, AL2753, HS⟩ := hrel
                          obtain ⟨w2754, rfl⟩ : ∃ x : World, x = wr := ⟨_, rfl⟩
                          cases gk with
                          | zero => exact absurd AL2753.out (by simp [quitrentlaw05_GroundApart.lo8])
                          | succ k2755 =>
                            have AL0 := AL2753.out
                            rw [quitrentlaw05_GroundApart.lo8] at AL0
                            clear AL2753
                            have AL2753 := Aside0.mk AL0
                            clear AL0
                            by_cases c2758 : x2757 < (t2109.length : Int)
                            · have AL2753 := if_yes c2758 AL2753
                              have c2758b0 : decide (x2757 < (t2109.length : Int)) = true := decide_eq_true c2758
                              clear c2758
                              by_cases c2759 : 0 ≤ x2757
                              · have AL2753 := if_yes c2759 AL2753
                                have c2759b0 : decide (0 ≤ x2757) = true := decide_eq_true c2759
                                have c2759p : (0 ≤ x2757) = True := eq_true c2759
                                clear c2759
                                have ip2760 : (x2757 < (t2109.length : Int)) = True := eq_true (of_decide_eq_true c2758b0)
                                by_cases c2764 : (rd t2109 x2757) = 0
                                · have AL2753 := if_yes c2764 AL2753
                                  have c2764b0 : ((rd t2109 x2757) == 0) = true := beq_iff_eq.mpr c2764
                                  have c2764b1 : ((rd t2109 x2757) != 0) = false := bne_eq_false_iff_eq.mpr c2764
                                  clear c2764
                                  obtain ⟨g2761, ea⟩ := row_at (HS.out.at3) (by have := (of_decide_eq_true c2759b0); have := (of_decide_eq_true c2758b0); omega); cases ea
                                  have hx2762 := C_at_int (row_Ci (HS.out.at3)) x2757 (of_decide_eq_true c2759b0) (of_decide_eq_true c2758b0)
                                  have hx2763 : w2754.cell? ⟨g2761, (x2757).toNat, none⟩ = some (.int .u32 (rd t2109 x2757)) := (row_get 0 (HS.out.at3) x2757 (of_decide_eq_true c2759b0) (of_decide_eq_true c2758b0)).1
                                  go_wp2_with fail
                                  clear hx2762 hx2763
                                  go_roundg k2755
                                  case measure => exact Nat.lt_succ_self _
                                  case rel => exact ⟨(x2756), (wrap64 (x2757 + 1)), (by first | rfl | (simp [IntKind.wrap_u32]; done)), (by first | rfl | (simp [IntKind.wrap_u32]; done)), Aside0.mk AL2753.out, ⟨(((((((HS.out).front 5 (by simp)).front 5 (by simp)).front 5 (by simp)).front 5 (by simp)).front 5 (by simp)).front 5 (by simp)).keep (l := [b7 g1894 g1895 t1876.1 t1876.2.1 t1876.2.2.1 t1876.2.2.2.1, b6 g1895 A1896 ((t1876.2.2.2.2).length) n1898 t2105.2.1, r2 A1896 ((t1876.2.2.2.2).length) n1898 t2105.2.2, r2 (some ⟨g2761, 0, none⟩) t2109.length n2749 t2109, b8 g1863 a1854 a1855 a1856, b8 g1866 a1857 a1858 a1859]) (rest := [])⟩⟩
                                · have AL2753 := if_no c2764 AL2753
                                  have c2764b0 : ((rd t2109 x2757) == 0) = false := beq_eq_false_iff_ne.mpr c2764
                                  have c2764b1 : ((rd t2109 x2757) != 0) = true := bne_iff_ne.mpr c2764
                                  clear c2764
                                  obtain ⟨g2761, ea⟩ := row_at (HS.out.at3) (by have := (of_decide_eq_true c2759b0); have := (of_decide_eq_true c2758b0); omega); cases ea
                                  have hx2762 := C_at_int (row_Ci (HS.out.at3)) x2757 (of_decide_eq_true c2759b0) (of_decide_eq_true c2758b0)
                                  have hx2763 : w2754.cell? ⟨g2761, (x2757).toNat, none⟩ = some (.int .u32 (rd t2109 x2757)) := (row_get 0 (HS.out.at3) x2757 (of_decide_eq_true c2759b0) (of_decide_eq_true c2758b0)).1
                                  go_wp2_with fail
                                  clear hx2762 hx2763
                                  go_roundg k2755
                                  case measure => exact Nat.lt_succ_self _
                                  case rel => exact ⟨(wrap64 (x2756 + 1)), (wrap64 (x2757 + 1)), (by first | rfl | (simp [IntKind.wrap_u32]; done)), (by first | rfl | (simp [IntKind.wrap_u32]; done)), Aside0.mk AL2753.out, ⟨(((((((HS.out).front 5 (by simp)).front 5 (by simp)).front 5 (by simp)).front 5 (by simp)).front 5 (by simp)).front 5 (by simp)).keep (l := [b7 g1894 g1895 t1876.1 t1876.2.1 t1876.2.2.1 t1876.2.2.2.1, b6 g1895 A1896 ((t1876.2.2.2.2).length) n1898 t2105.2.1, r2 A1896 ((t1876.2.2.2.2).length) n1898 t2105.2.2, r2 (some ⟨g2761, 0, none⟩) t2109.length n2749 t2109, b8 g1863 a1854 a1855 a1856, b8 g1866 a1857 a1858 a1859]) (rest := [])⟩⟩
                              · have AL2753 := if_no c2759 AL2753
                                have c2759b0 : decide (0 ≤ x2757) = false := decide_eq_false c2759
                                clear c2759
                                exact (none_no AL2753).elim
                            · have AL2753 := if_no c2758 AL2753
                              have c2758b0 : decide (x2757 < (t2109.length : Int)) = false := decide_eq_false c2758
                              clear c2758
                              have ho := some_eq AL2753
                              subst ho
                              clear AL2753
                              have hc2765 : w2754.cell? ⟨g1863, 0, none⟩ = some (.int .u8 a1854) := blk_cellv (HS.out.at4) 0 rfl
                              have hc2766 : w2754.cell? ⟨g1863, 1, none⟩ = some (.int .i64 a1855) := blk_cellv (HS.out.at4) 1 rfl
                              have hc2767 : w2754.cell? ⟨g1863, 2, none⟩ = some (.int .i64 a1856) := blk_cellv (HS.out.at4) 2 rfl
                              go_wp2_with fail
                              clear hc2765 hc2766 hc2767
                              obtain ⟨t2249, HA2768, H⟩ := bind_some H
                              refine (quitrentlaw05_get.calls t2105.2.2 t2105.2.1 t1876.1 t1876.2.1 t1876.2.2.1 t1876.2.2.2.1 a1854 a1855 a1856 g1894 g1895 A1896 ((t1876.2.2.2.2).length) n1898 t2249 _ ⟨HS.out.begin (l := [b7 g1894 g1895 t1876.1 t1876.2.1 t1876.2.2.1 t1876.2.2.2.1, b6 g1895 A1896 ((t1876.2.2.2.2).length) n1898 t2105.2.1, r2 A1896 ((t1876.2.2.2.2).length) n1898 t2105.2.2]) (rest := [r2 A2747 t2109.length n2749 t2109, b8 g1863 a1854 a1855 a1856, b8 g1866 a1857 a1858 a1859])⟩ HA2768).mono ?_
                              rintro e_ w2769 ⟨rfl, hS⟩
                              replace HS : Aside0 (Sep (fps []) w [b7 g1894 g1895 t1876.1 t1876.2.1 t1876.2.2.1 t1876.2.2.2.1, b6 g1895 A1896 ((t1876.2.2.2.2).length) n1898 t2249.2, r2 A1896 ((t1876.2.2.2.2).length) n1898 t2105.2.2, r2 A2747 t2109.length n2749 t2109, b8 g1863 a1854 a1855 a1856, b8 g1866 a1857 a1858 a1859] w2769) := ⟨HS.out.call (l := [b7 g1894 g1895 t1876.1 t1876.2.1 t1876.2.2.1 t1876.2.2.2.1, b6 g1895 A1896 ((t1876.2.2.2.2).length) n1898 t2105.2.1, r2 A1896 ((t1876.2.2.2.2).length) n1898 t2105.2.2]) (rest := [r2 A2747 t2109.length n2749 t2109, b8 g1863 a1854 a1855 a1856, b8 g1866 a1857 a1858 a1859]) hS⟩
                              clear hS
                              by_cases c2770 : t2249.1 = 5
                              · have H := if_yes c2770 H
                                have c2770b0 : (t2249.1 == 5) = true := beq_iff_eq.mpr c2770
                                have c2770b1 : (t2249.1 != 5) = false := bne_eq_false_iff_eq.mpr c2770
                                clear c2770
                                have hc2771 : w2769.cell? ⟨g1866, 0, none⟩ = some (.int .u8 a1857) := blk_cellv (HS.out.at5) 0 rfl
                                have hc2772 : w2769.cell? ⟨g1866, 1, none⟩ = some (.int .i64 a1858) := blk_cellv (HS.out.at5) 1 rfl
                                have hc2773 : w2769.cell? ⟨g1866, 2, none⟩ = some (.int .i64 a1859) := blk_cellv (HS.out.at5) 2 rfl
                                go_wp2_with fail
                                clear hc2771 hc2772 hc2773
                                obtain ⟨t2256, HA2774, H⟩ := bind_some H
                                refine (quitrentlaw05_get.calls t2105.2.2 t2249.2 t1876.1 t1876.2.1 t1876.2.2.1 t1876.2.2.2.1 a1857 a1858 a1859 g1894 g1895 A1896 ((t1876.2.2.2.2).length) n1898 t2256 _ ⟨HS.out.begin (l := [b7 g1894 g1895 t1876.1 t1876.2.1 t1876.2.2.1 t1876.2.2.2.1, b6 g1895 A1896 ((t1876.2.2.2.2).length) n1898 t2249.2, r2 A1896 ((t1876.2.2.2.2).length) n1898 t2105.2.2]) (rest := [r2 A2747 t2109.length n2749 t2109, b8 g1863 a1854 a1855 a1856, b8 g1866 a1857 a1858 a1859])⟩ HA2774).mono ?_
                                rintro e_ w2775 ⟨rfl, hS⟩
                                replace HS : Aside0 (Sep (fps []) w [b7 g1894 g1895 t1876.1 t1876.2.1 t1876.2.2.1 t1876.2.2.2.1, b6 g1895 A1896 ((t1876.2.2.2.2).length) n1898 t2256.2, r2 A1896 ((t1876.2.2.2.2).length) n1898 t2105.2.2, r2 A2747 t2109.length n2749 t2109, b8 g1863 a1854 a1855 a1856, b8 g1866 a1857 a1858 a1859] w2775) := ⟨HS.out.call (l := [b7 g1894 g1895 t1876.1 t1876.2.1 t1876.2.2.1 t1876.2.2.2.1, b6 g1895 A1896 ((t1876.2.2.2.2).length) n1898 t2249.2, r2 A1896 ((t1876.2.2.2.2).length) n1898 t2105.2.2]) (rest := [r2 A2747 t2109.length n2749 t2109, b8 g1863 a1854 a1855 a1856, b8 g1866 a1857 a1858 a1859]) hS⟩
                                clear hS
                                by_cases c2776 : t2256.1 = 6
                                · have H := if_yes c2776 H
                                  have c2776b0 : (t2256.1 == 6) = true := beq_iff_eq.mpr c2776
                                  have c2776b1 : (t2256.1 != 6) = false := bne_eq_false_iff_eq.mpr c2776
                                  clear c2776
                                  by_cases c2777 : x2756 = 2
                                  · have H := if_yes c2777 H
                                    have c2777b0 : (x2756 == 2) = true := beq_iff_eq.mpr c2777
                                    have c2777b1 : (x2756 != 2) = false := bne_eq_false_iff_eq.mpr c2777
                                    clear c2777
                                    go_wp2_with fail
                                    obtain ⟨t2261, HA2778, H⟩ := bind_some H
                                    refine (quitrentlaw05_begun.calls _ t2261 _ ⟨HS.out.begin (l := []) (rest := [b7 g1894 g1895 t1876.1 t1876.2.1 t1876.2.2.1 t1876.2.2.2.1, b6 g1895 A1896 ((t1876.2.2.2.2).length) n1898 t2256.2, r2 A1896 ((t1876.2.2.2.2).length) n1898 t2105.2.2, r2 A2747 t2109.length n2749 t2109, b8 g1863 a1854 a1855 a1856, b8 g1866 a1857 a1858 a1859])⟩ HA2778).mono ?_
                                    rintro e_ w2779 ⟨rfl, hS⟩
                                    replace HS : Aside0 (Sep (fps []) w [b7 g1894 g1895 t1876.1 t1876.2.1 t1876.2.2.1 t1876.2.2.2.1, b6 g1895 A1896 ((t1876.2.2.2.2).length) n1898 t2256.2, r2 A1896 ((t1876.2.2.2.2).length) n1898 t2105.2.2, r2 A2747 t2109.length n2749 t2109, b8 g1863 a1854 a1855 a1856, b8 g1866 a1857 a1858 a1859] w2779) := ⟨HS.out.call (l := []) (rest := [b7 g1894 g1895 t1876.1 t1876.2.1 t1876.2.2.1 t1876.2.2.2.1, b6 g1895 A1896 ((t1876.2.2.2.2).length) n1898 t2256.2, r2 A1896 ((t1876.2.2.2.2).length) n1898 t2105.2.2, r2 A2747 t2109.length n2749 t2109, b8 g1863 a1854 a1855 a1856, b8 g1866 a1857 a1858 a1859]) hS⟩
                                    clear hS
                                    replace HS : Aside0 (Sep (fps []) w [] w2779) := ⟨HS.out.sub (.cons _ (.cons _ (.cons _ (.cons _ (.cons _ (.cons _ .slnil))))))⟩
                                    go_wp2_with fail
                                    go_ret
                                    rw [← some_eq H]
                                    exact ⟨(by first | rfl | (simp [IntKind.wrap_u32]; done)), (HS.out).keep (l := []) (rest := [])⟩
                                  · have H := if_no c2777 H
                                    have c2777b0 : (x2756 == 2) = false := beq_eq_false_iff_ne.mpr c2777
                                    have c2777b1 : (x2756 != 2) = true := bne_iff_ne.mpr c2777
                                    clear c2777
                                    replace HS : Aside0 (Sep (fps []) w [] w2775) := ⟨HS.out.sub (.cons _ (.cons _ (.cons _ (.cons _ (.cons _ (.cons _ .slnil))))))⟩
                                    go_wp2_with fail
                                    go_ret
                                    rw [← some_eq H]
                                    exact ⟨(by first | rfl | (simp [IntKind.wrap_u32]; done)), (HS.out).keep (l := []) (rest := [])⟩
                                · have H := if_no c2776 H
                                  have c2776b0 : (t2256.1 == 6) = false := beq_eq_false_iff_ne.mpr c2776
                                  have c2776b1 : (t2256.1 != 6) = true := bne_iff_ne.mpr c2776
                                  clear c2776
                                  replace HS : Aside0 (Sep (fps []) w [] w2775) := ⟨HS.out.sub (.cons _ (.cons _ (.cons _ (.cons _ (.cons _ (.cons _ .slnil))))))⟩
                                  go_wp2_with fail
                                  go_ret
                                  rw [← some_eq H]
                                  exact ⟨(by first | rfl | (simp [IntKind.wrap_u32]; done)), (HS.out).keep (l := []) (rest := [])⟩
                              · have H := if_no c2770 H
                                have c2770b0 : (t2249.1 == 5) = false := beq_eq_false_iff_ne.mpr c2770
                                have c2770b1 : (t2249.1 != 5) = true := bne_iff_ne.mpr c2770
                                clear c2770
                                replace HS : Aside0 (Sep (fps []) w [] w2769) := ⟨HS.out.sub (.cons _ (.cons _ (.cons _ (.cons _ (.cons _ (.cons _ .slnil))))))⟩
                                go_wp2_with fail
                                go_ret
                                rw [← some_eq H]
                                exact ⟨(by first | rfl | (simp [IntKind.wrap_u32]; done)), (HS.out).keep (l := []) (rest := [])⟩
                      · have H := if_no c2743 H
                        have c2743b0 : t2105.1 = false := by simpa using c2743
                        have c2743b1 : (!t2105.1) = true := by rw [c2743b0]; rfl
                        try rw [c2743b1]
                        clear c2743
                        go_wp2_with fail
                        obtain ⟨t2102, HA2796, H⟩ := bind_some H
                        refine (quitrentlaw05_begun.calls _ t2102 _ ⟨HS.out.begin (l := []) (rest := [b7 g1894 g1895 t1876.1 t1876.2.1 t1876.2.2.1 t1876.2.2.2.1, b6 g1895 A1896 ((t1876.2.2.2.2).length) n1898 t2105.2.1, r2 A1896 ((t1876.2.2.2.2).length) n1898 t2105.2.2, b8 g1863 a1854 a1855 a1856, b8 g1866 a1857 a1858 a1859])⟩ HA2796).mono ?_
                        rintro e_ w2797 ⟨rfl, hS⟩
                        replace HS : Aside0 (Sep (fps []) w [b7 g1894 g1895 t1876.1 t1876.2.1 t1876.2.2.1 t1876.2.2.2.1, b6 g1895 A1896 ((t1876.2.2.2.2).length) n1898 t2105.2.1, r2 A1896 ((t1876.2.2.2.2).length) n1898 t2105.2.2, b8 g1863 a1854 a1855 a1856, b8 g1866 a1857 a1858 a1859] w2797) := ⟨HS.out.call (l := []) (rest := [b7 g1894 g1895 t1876.1 t1876.2.1 t1876.2.2.1 t1876.2.2.2.1, b6 g1895 A1896 ((t1876.2.2.2.2).length) n1898 t2105.2.1, r2 A1896 ((t1876.2.2.2.2).length) n1898 t2105.2.2, b8 g1863 a1854 a1855 a1856, b8 g1866 a1857 a1858 a1859]) hS⟩
                        clear hS
                        replace HS : Aside0 (Sep (fps []) w [] w2797) := ⟨HS.out.sub (.cons _ (.cons _ (.cons _ (.cons _ (.cons _ .slnil)))))⟩
                        go_wp2_with fail
                        go_ret
                        rw [← some_eq H]
                        exact ⟨(by first | rfl | (simp [IntKind.wrap_u32]; done)), (HS.out).keep (l := []) (rest := [])⟩
                  · have H := if_no c2737 H
                    have c2737b0 : (a1855 == a1858) = false := beq_eq_false_iff_ne.mpr c2737
                    have c2737b1 : (a1855 != a1858) = true := bne_iff_ne.mpr c2737
                    clear c2737
                    have hc2730 : w2728.cell? ⟨g1863, 0, none⟩ = some (.int .u8 a1854) := blk_cellv (HS.out.at3) 0 rfl
                    have hc2731 : w2728.cell? ⟨g1863, 1, none⟩ = some (.int .i64 a1855) := blk_cellv (HS.out.at3) 1 rfl
                    have hc2732 : w2728.cell? ⟨g1863, 2, none⟩ = some (.int .i64 a1856) := blk_cellv (HS.out.at3) 2 rfl
                    have hc2733 : w2728.cell? ⟨g1866, 0, none⟩ = some (.int .u8 a1857) := blk_cellv (HS.out.at4) 0 rfl
                    have hc2734 : w2728.cell? ⟨g1866, 1, none⟩ = some (.int .i64 a1858) := blk_cellv (HS.out.at4) 1 rfl
                    have hc2735 : w2728.cell? ⟨g1866, 2, none⟩ = some (.int .i64 a1859) := blk_cellv (HS.out.at4) 2 rfl
                    go_wp2_with fail
                    clear hc2730 hc2731 hc2732 hc2733 hc2734 hc2735
                    obtain ⟨t2105, HA2798, H⟩ := bind_some H
                    refine (quitrentlaw05_put.calls t2090.2.2 t2090.2.1 t1876.1 t1876.2.1 t1876.2.2.1 t1876.2.2.2.1 a1857 a1858 a1859 6 g1894 g1895 A1896 ((t1876.2.2.2.2).length) n1898 t2105 _ ⟨HS.out.begin (l := [b7 g1894 g1895 t1876.1 t1876.2.1 t1876.2.2.1 t1876.2.2.2.1, b6 g1895 A1896 ((t1876.2.2.2.2).length) n1898 t2090.2.1, r2 A1896 ((t1876.2.2.2.2).length) n1898 t2090.2.2]) (rest := [b8 g1863 a1854 a1855 a1856, b8 g1866 a1857 a1858 a1859])⟩ HA2798).mono ?_
                    rintro e_ w2799 ⟨rfl, hS⟩
                    replace HS : Aside0 (Sep (fps []) w [b7 g1894 g1895 t1876.1 t1876.2.1 t1876.2.2.1 t1876.2.2.2.1, b6 g1895 A1896 ((t1876.2.2.2.2).length) n1898 t2105.2.1, r2 A1896 ((t1876.2.2.2.2).length) n1898 t2105.2.2, b8 g1863 a1854 a1855 a1856, b8 g1866 a1857 a1858 a1859] w2799) := ⟨HS.out.call (l := [b7 g1894 g1895 t1876.1 t1876.2.1 t1876.2.2.1 t1876.2.2.2.1, b6 g1895 A1896 ((t1876.2.2.2.2).length) n1898 t2090.2.1, r2 A1896 ((t1876.2.2.2.2).length) n1898 t2090.2.2]) (rest := [b8 g1863 a1854 a1855 a1856, b8 g1866 a1857 a1858 a1859]) hS⟩
                    clear hS
                    by_cases c2800 : t2105.1 = true
                    · have H := if_yes c2800 H
                      have c2800b0 : t2105.1 = true := c2800
                      have c2800b1 : (!t2105.1) = false := by rw [c2800b0]; rfl
                      try rw [c2800b1]
                      clear c2800
                      go_wp2_with fail
                      obtain ⟨t2109, HA2801, H⟩ := bind_some H
                      refine (ground_Ground_Words.calls t2105.2.2 t2105.2.1 t1876.1 t1876.2.1 t1876.2.2.1 t1876.2.2.2.1 g1894 g1895 A1896 ((t1876.2.2.2.2).length) n1898 t2109 _ ⟨HS.out.begin (l := [b7 g1894 g1895 t1876.1 t1876.2.1 t1876.2.2.1 t1876.2.2.2.1, b6 g1895 A1896 ((t1876.2.2.2.2).length) n1898 t2105.2.1, r2 A1896 ((t1876.2.2.2.2).length) n1898 t2105.2.2]) (rest := [b8 g1863 a1854 a1855 a1856, b8 g1866 a1857 a1858 a1859])⟩ HA2801).mono ?_
                      rintro e_ w2802 ⟨A2804, m2805, n2806, rfl, hS⟩
                      replace HS : Aside0 (Sep (fps []) w [b7 g1894 g1895 t1876.1 t1876.2.1 t1876.2.2.1 t1876.2.2.2.1, b6 g1895 A1896 ((t1876.2.2.2.2).length) n1898 t2105.2.1, r2 A1896 ((t1876.2.2.2.2).length) n1898 t2105.2.2, r2 A2804 m2805 n2806 t2109, b8 g1863 a1854 a1855 a1856, b8 g1866 a1857 a1858 a1859] w2802) := ⟨HS.out.call (l := [b7 g1894 g1895 t1876.1 t1876.2.1 t1876.2.2.1 t1876.2.2.2.1, b6 g1895 A1896 ((t1876.2.2.2.2).length) n1898 t2105.2.1, r2 A1896 ((t1876.2.2.2.2).length) n1898 t2105.2.2]) (rest := [b8 g1863 a1854 a1855 a1856, b8 g1866 a1857 a1858 a1859]) hS⟩
                      clear hS
                      obtain rfl := (row_len (HS.out.at3)).symm
                      go_wp2_with fail
                      obtain ⟨o2809, AL2810, H⟩ := bind_some H
                      go_loopg [9, 70] k (fun kq v9 v70 wc => ∃ (x2813 : Int) (x2814 : Int), v9 = .int .i64 x2813 ∧ v70 = .int .i64 x2814 ∧ Aside0 (quitrentlaw05_GroundApart.lo9 kq t2109 x2813 x2814 = some o2809) ∧ Aside0 (Sep (fps []) w [b7 g1894 g1895 t1876.1 t1876.2.1 t1876.2.2.1 t1876.2.2.2.1, b6 g1895 A1896 ((t1876.2.2.2.2).length) n1898 t2105.2.1, r2 A1896 ((t1876.2.2.2.2).length) n1898 t2105.2.2, r2 A2804 t2109.length n2806 t2109, b8 g1863 a1854 a1855 a1856, b8 g1866 a1857 a1858 a1859] wc))
                      case atStart => exact ⟨(0), (0), (by first | rfl | (simp [IntKind.wrap_u32]; done)), (by first | rfl | (simp [IntKind.wrap_u32]; done)), AL2810, ⟨HS.out⟩⟩
                      case round =>
                        clear AL2810 HS
                        obtain ⟨x2813, x2814, rfl, rfl, AL2810, HS⟩ := hrel
                        obtain ⟨w2811, rfl⟩ : ∃ x : World, x = wr := ⟨_, rfl⟩
                        cases gk with
                        | zero => exact absurd AL2810.out (by simp [quitrentlaw05_GroundApart.lo9])
                        | succ k2812 =>
                          have AL0 := AL2810.out
                          rw [quitrentlaw05_GroundApart.lo9] at AL0
                          clear AL2810
                          have AL2810 := Aside0.mk AL0
                          clear AL0
                          by_cases c2815 : x2814 < (t2109.length : Int)
                          · have AL2810 := if_yes c2815 AL2810
                            have c2815b0 : decide (x2814 < (t2109.length : Int)) = true := decide_eq_true c2815
                            clear c2815
                            by_cases c2816 : 0 ≤ x2814
                            · have AL2810 := if_yes c2816 AL2810
                              have c2816b0 : decide (0 ≤ x2814) = true := decide_eq_true c2816
                              have c2816p : (0 ≤ x2814) = True := eq_true c2816
                              clear c2816
                              have ip2817 : (x2814 < (t2109.length : Int)) = True := eq_true (of_decide_eq_true c2815b0)
                              by_cases c2821 : (rd t2109 x2814) = 0
                              · have AL2810 := if_yes c2821 AL2810
                                have c2821b0 : ((rd t2109 x2814) == 0) = true := beq_iff_eq.mpr c2821
                                have c2821b1 : ((rd t2109 x2814) != 0) = false := bne_eq_false_iff_eq.mpr c2821
                                clear c2821
                                obtain ⟨g2818, ea⟩ := row_at (HS.out.at3) (by have := (of_decide_eq_true c2816b0); have := (of_decide_eq_true c2815b0); omega); cases ea
                                have hx2819 := C_at_int (row_Ci (HS.out.at3)) x2814 (of_decide_eq_true c2816b0) (of_decide_eq_true c2815b0)
                                have hx2820 : w2811.cell? ⟨g2818, (x2814).toNat, none⟩ = some (.int .u32 (rd t2109 x2814)) := (row_get 0 (HS.out.at3) x2814 (of_decide_eq_true c2816b0) (of_decide_eq_true c2815b0)).1
                                go_wp2_with fail
                                clear hx2819 hx2820
                                go_roundg k2812
                                case measure => exact Nat.lt_succ_self _
                                case rel => exact ⟨(x2813), (wrap64 (x2814 + 1)), (by first | rfl | (simp [IntKind.wrap_u32]; done)), (by first | rfl | (simp [IntKind.wrap_u32]; done)), Aside0.mk AL2810.out, ⟨(((((((HS.out).front 5 (by simp)).front 5 (by simp)).front 5 (by simp)).front 5 (by simp)).front 5 (by simp)).front 5 (by simp)).keep (l := [b7 g1894 g1895 t1876.1 t1876.2.1 t1876.2.2.1 t1876.2.2.2.1, b6 g1895 A1896 ((t1876.2.2.2.2).length) n1898 t2105.2.1, r2 A1896 ((t1876.2.2.2.2).length) n1898 t2105.2.2, r2 (some ⟨g2818, 0, none⟩) t2109.length n2806 t2109, b8 g1863 a1854 a1855 a1856, b8 g1866 a1857 a1858 a1859]) (rest := [])⟩⟩
                              · have AL2810 := if_no c2821 AL2810
                                have c2821b0 : ((rd t2109 x2814) == 0) = false := beq_eq_false_iff_ne.mpr c2821
                                have c2821b1 : ((rd t2109 x2814) != 0) = true := bne_iff_ne.mpr c2821
                                clear c2821
                                obtain ⟨g2818, ea⟩ := row_at (HS.out.at3) (by have := (of_decide_eq_true c2816b0); have := (of_decide_eq_true c2815b0); omega); cases ea
                                have hx2819 := C_at_int (row_Ci (HS.out.at3)) x2814 (of_decide_eq_true c2816b0) (of_decide_eq_true c2815b0)
                                have hx2820 : w2811.cell? ⟨g2818, (x2814).toNat, none⟩ = some (.int .u32 (rd t2109 x2814)) := (row_get 0 (HS.out.at3) x2814 (of_decide_eq_true c2816b0) (of_decide_eq_true c2815b0)).1
                                go_wp2_with fail
                                clear hx2819 hx2820
                                go_roundg k2812
                                case measure => exact Nat.lt_succ_self _
                                case rel => exact ⟨(wrap64 (x2813 + 1)), (wrap64 (x2814 + 1)), (by first | rfl | (simp [IntKind.wrap_u32]; done)), (by first | rfl | (simp [IntKind.wrap_u32]; done)), Aside0.mk AL2810.out, ⟨(((((((HS.out).front 5 (by simp)).front 5 (by simp)).front 5 (by simp)).front 5 (by simp)).front 5 (by simp)).front 5 (by simp)).keep (l := [b7 g1894 g1895 t1876.1 t1876.2.1 t1876.2.2.1 t1876.2.2.2.1, b6 g1895 A1896 ((t1876.2.2.2.2).length) n1898 t2105.2.1, r2 A1896 ((t1876.2.2.2.2).length) n1898 t2105.2.2, r2 (some ⟨g2818, 0, none⟩) t2109.length n2806 t2109, b8 g1863 a1854 a1855 a1856, b8 g1866 a1857 a1858 a1859]) (rest := [])⟩⟩
                            · have AL2810 := if_no c2816 AL2810
                              have c2816b0 : decide (0 ≤ x2814) = false := decide_eq_false c2816
                              clear c2816
                              exact (none_no AL2810).elim
                          · have AL2810 := if_no c2815 AL2810
                            have c2815b0 : decide (x2814 < (t2109.length : Int)) = false := decide_eq_false c2815
                            clear c2815
                            have ho := some_eq AL2810
                            subst ho
                            clear AL2810
                            have hc2822 : w2811.cell? ⟨g1863, 0, none⟩ = some (.int .u8 a1854) := blk_cellv (HS.out.at4) 0 rfl
                            have hc2823 : w2811.cell? ⟨g1863, 1, none⟩ = some (.int .i64 a1855) := blk_cellv (HS.out.at4) 1 rfl
                            have hc2824 : w2811.cell? ⟨g1863, 2, none⟩ = some (.int .i64 a1856) := blk_cellv (HS.out.at4) 2 rfl
                            go_wp2_with fail
                            clear hc2822 hc2823 hc2824
                            obtain ⟨t2249, HA2825, H⟩ := bind_some H
                            refine (quitrentlaw05_get.calls t2105.2.2 t2105.2.1 t1876.1 t1876.2.1 t1876.2.2.1 t1876.2.2.2.1 a1854 a1855 a1856 g1894 g1895 A1896 ((t1876.2.2.2.2).length) n1898 t2249 _ ⟨HS.out.begin (l := [b7 g1894 g1895 t1876.1 t1876.2.1 t1876.2.2.1 t1876.2.2.2.1, b6 g1895 A1896 ((t1876.2.2.2.2).length) n1898 t2105.2.1, r2 A1896 ((t1876.2.2.2.2).length) n1898 t2105.2.2]) (rest := [r2 A2804 t2109.length n2806 t2109, b8 g1863 a1854 a1855 a1856, b8 g1866 a1857 a1858 a1859])⟩ HA2825).mono ?_
                            rintro e_ w2826 ⟨rfl, hS⟩
                            replace HS : Aside0 (Sep (fps []) w [b7 g1894 g1895 t1876.1 t1876.2.1 t1876.2.2.1 t1876.2.2.2.1, b6 g1895 A1896 ((t1876.2.2.2.2).length) n1898 t2249.2, r2 A1896 ((t1876.2.2.2.2).length) n1898 t2105.2.2, r2 A2804 t2109.length n2806 t2109, b8 g1863 a1854 a1855 a1856, b8 g1866 a1857 a1858 a1859] w2826) := ⟨HS.out.call (l := [b7 g1894 g1895 t1876.1 t1876.2.1 t1876.2.2.1 t1876.2.2.2.1, b6 g1895 A1896 ((t1876.2.2.2.2).length) n1898 t2105.2.1, r2 A1896 ((t1876.2.2.2.2).length) n1898 t2105.2.2]) (rest := [r2 A2804 t2109.length n2806 t2109, b8 g1863 a1854 a1855 a1856, b8 g1866 a1857 a1858 a1859]) hS⟩
                            clear hS
                            by_cases c2827 : t2249.1 = 5
                            · have H := if_yes c2827 H
                              have c2827b0 : (t2249.1 == 5) = true := beq_iff_eq.mpr c2827
                              have c2827b1 : (t2249.1 != 5) = false := bne_eq_false_iff_eq.mpr c2827
                              clear c2827
                              have hc2828 : w2826.cell? ⟨g1866, 0, none⟩ = some (.int .u8 a1857) := blk_cellv (HS.out.at5) 0 rfl
                              have hc2829 : w2826.cell? ⟨g1866, 1, none⟩ = some (.int .i64 a1858) := blk_cellv (HS.out.at5) 1 rfl
                              have hc2830 : w2826.cell? ⟨g1866, 2, none⟩ = some (.int .i64 a1859) := blk_cellv (HS.out.at5) 2 rfl
                              go_wp2_with fail
                              clear hc2828 hc2829 hc2830
                              obtain ⟨t2256, HA2831, H⟩ := bind_some H
                              refine (quitrentlaw05_get.calls t2105.2.2 t2249.2 t1876.1 t1876.2.1 t1876.2.2.1 t1876.2.2.2.1 a1857 a1858 a1859 g1894 g1895 A1896 ((t1876.2.2.2.2).length) n1898 t2256 _ ⟨HS.out.begin (l := [b7 g1894 g1895 t1876.1 t1876.2.1 t1876.2.2.1 t1876.2.2.2.1, b6 g1895 A1896 ((t1876.2.2.2.2).length) n1898 t2249.2, r2 A1896 ((t1876.2.2.2.2).length) n1898 t2105.2.2]) (rest := [r2 A2804 t2109.length n2806 t2109, b8 g1863 a1854 a1855 a1856, b8 g1866 a1857 a1858 a1859])⟩ HA2831).mono ?_
                              rintro e_ w2832 ⟨rfl, hS⟩
                              replace HS : Aside0 (Sep (fps []) w [b7 g1894 g1895 t1876.1 t1876.2.1 t1876.2.2.1 t1876.2.2.2.1, b6 g1895 A1896 ((t1876.2.2.2.2).length) n1898 t2256.2, r2 A1896 ((t1876.2.2.2.2).length) n1898 t2105.2.2, r2 A2804 t2109.length n2806 t2109, b8 g1863 a1854 a1855 a1856, b8 g1866 a1857 a1858 a1859] w2832) := ⟨HS.out.call (l := [b7 g1894 g1895 t1876.1 t1876.2.1 t1876.2.2.1 t1876.2.2.2.1, b6 g1895 A1896 ((t1876.2.2.2.2).length) n1898 t2249.2, r2 A1896 ((t1876.2.2.2.2).length) n1898 t2105.2.2]) (rest := [r2 A2804 t2109.length n2806 t2109, b8 g1863 a1854 a1855 a1856, b8 g1866 a1857 a1858 a1859]) hS⟩
                              clear hS
                              by_cases c2833 : t2256.1 = 6
                              · have H := if_yes c2833 H
                                have c2833b0 : (t2256.1 == 6) = true := beq_iff_eq.mpr c2833
                                have c2833b1 : (t2256.1 != 6) = false := bne_eq_false_iff_eq.mpr c2833
                                clear c2833
                                by_cases c2834 : x2813 = 2
                                · have H := if_yes c2834 H
                                  have c2834b0 : (x2813 == 2) = true := beq_iff_eq.mpr c2834
                                  have c2834b1 : (x2813 != 2) = false := bne_eq_false_iff_eq.mpr c2834
                                  clear c2834
                                  go_wp2_with fail
                                  obtain ⟨t2261, HA2835, H⟩ := bind_some H
                                  refine (quitrentlaw05_begun.calls _ t2261 _ ⟨HS.out.begin (l := []) (rest := [b7 g1894 g1895 t1876.1 t1876.2.1 t1876.2.2.1 t1876.2.2.2.1, b6 g1895 A1896 ((t1876.2.2.2.2).length) n1898 t2256.2, r2 A1896 ((t1876.2.2.2.2).length) n1898 t2105.2.2, r2 A2804 t2109.length n2806 t2109, b8 g1863 a1854 a1855 a1856, b8 g1866 a1857 a1858 a1859])⟩ HA2835).mono ?_
                                  rintro e_ w2836 ⟨rfl, hS⟩
                                  replace HS : Aside0 (Sep (fps []) w [b7 g1894 g1895 t1876.1 t1876.2.1 t1876.2.2.1 t1876.2.2.2.1, b6 g1895 A1896 ((t1876.2.2.2.2).length) n1898 t2256.2, r2 A1896 ((t1876.2.2.2.2).length) n1898 t2105.2.2, r2 A2804 t2109.length n2806 t2109, b8 g1863 a1854 a1855 a1856, b8 g1866 a1857 a1858 a1859] w2836) := ⟨HS.out.call (l := []) (rest := [b7 g1894 g1895 t1876.1 t1876.2.1 t1876.2.2.1 t1876.2.2.2.1, b6 g1895 A1896 ((t1876.2.2.2.2).length) n1898 t2256.2, r2 A1896 ((t1876.2.2.2.2).length) n1898 t2105.2.2, r2 A2804 t2109.length n2806 t2109, b8 g1863 a1854 a1855 a1856, b8 g1866 a1857 a1858 a1859]) hS⟩
                                  clear hS
                                  replace HS : Aside0 (Sep (fps []) w [] w2836) := ⟨HS.out.sub (.cons _ (.cons _ (.cons _ (.cons _ (.cons _ (.cons _ .slnil))))))⟩
                                  go_wp2_with fail
                                  go_ret
                                  rw [← some_eq H]
                                  exact ⟨(by first | rfl | (simp [IntKind.wrap_u32]; done)), (HS.out).keep (l := []) (rest := [])⟩
                                · have H := if_no c2834 H
                                  have c2834b0 : (x2813 == 2) = false := beq_eq_false_iff_ne.mpr c2834
                                  have c2834b1 : (x2813 != 2) = true := bne_iff_ne.mpr c2834
                                  clear c2834
                                  replace HS : Aside0 (Sep (fps []) w [] w2832) := ⟨HS.out.sub (.cons _ (.cons _ (.cons _ (.cons _ (.cons _ (.cons _ .slnil))))))⟩
                                  go_wp2_with fail
                                  go_ret
                                  rw [← some_eq H]
                                  exact ⟨(by first | rfl | (simp [IntKind.wrap_u32]; done)), (HS.out).keep (l := []) (rest := [])⟩
                              · have H := if_no c2833 H
                                have c2833b0 : (t2256.1 == 6) = false := beq_eq_false_iff_ne.mpr c2833
                                have c2833b1 : (t2256.1 != 6) = true := bne_iff_ne.mpr c2833
                                clear c2833
                                replace HS : Aside0 (Sep (fps []) w [] w2832) := ⟨HS.out.sub (.cons _ (.cons _ (.cons _ (.cons _ (.cons _ (.cons _ .slnil))))))⟩
                                go_wp2_with fail
                                go_ret
                                rw [← some_eq H]
                                exact ⟨(by first | rfl | (simp [IntKind.wrap_u32]; done)), (HS.out).keep (l := []) (rest := [])⟩
                            · have H := if_no c2827 H
                              have c2827b0 : (t2249.1 == 5) = false := beq_eq_false_iff_ne.mpr c2827
                              have c2827b1 : (t2249.1 != 5) = true := bne_iff_ne.mpr c2827
                              clear c2827
                              replace HS : Aside0 (Sep (fps []) w [] w2826) := ⟨HS.out.sub (.cons _ (.cons _ (.cons _ (.cons _ (.cons _ (.cons _ .slnil))))))⟩
                              go_wp2_with fail
                              go_ret
                              rw [← some_eq H]
                              exact ⟨(by first | rfl | (simp [IntKind.wrap_u32]; done)), (HS.out).keep (l := []) (rest := [])⟩
                    · have H := if_no c2800 H
                      have c2800b0 : t2105.1 = false := by simpa using c2800
                      have c2800b1 : (!t2105.1) = true := by rw [c2800b0]; rfl
                      try rw [c2800b1]
                      clear c2800
                      go_wp2_with fail
                      obtain ⟨t2102, HA2853, H⟩ := bind_some H
                      refine (quitrentlaw05_begun.calls _ t2102 _ ⟨HS.out.begin (l := []) (rest := [b7 g1894 g1895 t1876.1 t1876.2.1 t1876.2.2.1 t1876.2.2.2.1, b6 g1895 A1896 ((t1876.2.2.2.2).length) n1898 t2105.2.1, r2 A1896 ((t1876.2.2.2.2).length) n1898 t2105.2.2, b8 g1863 a1854 a1855 a1856, b8 g1866 a1857 a1858 a1859])⟩ HA2853).mono ?_
                      rintro e_ w2854 ⟨rfl, hS⟩
                      replace HS : Aside0 (Sep (fps []) w [b7 g1894 g1895 t1876.1 t1876.2.1 t1876.2.2.1 t1876.2.2.2.1, b6 g1895 A1896 ((t1876.2.2.2.2).length) n1898 t2105.2.1, r2 A1896 ((t1876.2.2.2.2).length) n1898 t2105.2.2, b8 g1863 a1854 a1855 a1856, b8 g1866 a1857 a1858 a1859] w2854) := ⟨HS.out.call (l := []) (rest := [b7 g1894 g1895 t1876.1 t1876.2.1 t1876.2.2.1 t1876.2.2.2.1, b6 g1895 A1896 ((t1876.2.2.2.2).length) n1898 t2105.2.1, r2 A1896 ((t1876.2.2.2.2).length) n1898 t2105.2.2, b8 g1863 a1854 a1855 a1856, b8 g1866 a1857 a1858 a1859]) hS⟩
                      clear hS
                      replace HS : Aside0 (Sep (fps []) w [] w2854) := ⟨HS.out.sub (.cons _ (.cons _ (.cons _ (.cons _ (.cons _ .slnil)))))⟩
                      go_wp2_with fail
                      go_ret
                      rw [← some_eq H]
                      exact ⟨(by first | rfl | (simp [IntKind.wrap_u32]; done)), (HS.out).keep (l := []) (rest := [])⟩
                · have H := if_no c2736 H
                  have c2736b0 : (a1854 == a1857) = false := beq_eq_false_iff_ne.mpr c2736
                  have c2736b1 : (a1854 != a1857) = true := bne_iff_ne.mpr c2736
                  clear c2736
                  have hc2730 : w2728.cell? ⟨g1863, 0, none⟩ = some (.int .u8 a1854) := blk_cellv (HS.out.at3) 0 rfl
                  have hc2731 : w2728.cell? ⟨g1863, 1, none⟩ = some (.int .i64 a1855) := blk_cellv (HS.out.at3) 1 rfl
                  have hc2732 : w2728.cell? ⟨g1863, 2, none⟩ = some (.int .i64 a1856) := blk_cellv (HS.out.at3) 2 rfl
                  have hc2733 : w2728.cell? ⟨g1866, 0, none⟩ = some (.int .u8 a1857) := blk_cellv (HS.out.at4) 0 rfl
                  have hc2734 : w2728.cell? ⟨g1866, 1, none⟩ = some (.int .i64 a1858) := blk_cellv (HS.out.at4) 1 rfl
                  have hc2735 : w2728.cell? ⟨g1866, 2, none⟩ = some (.int .i64 a1859) := blk_cellv (HS.out.at4) 2 rfl
                  go_wp2_with fail
                  clear hc2730 hc2731 hc2732 hc2733 hc2734 hc2735
                  obtain ⟨t2105, HA2855, H⟩ := bind_some H
                  refine (quitrentlaw05_put.calls t2090.2.2 t2090.2.1 t1876.1 t1876.2.1 t1876.2.2.1 t1876.2.2.2.1 a1857 a1858 a1859 6 g1894 g1895 A1896 ((t1876.2.2.2.2).length) n1898 t2105 _ ⟨HS.out.begin (l := [b7 g1894 g1895 t1876.1 t1876.2.1 t1876.2.2.1 t1876.2.2.2.1, b6 g1895 A1896 ((t1876.2.2.2.2).length) n1898 t2090.2.1, r2 A1896 ((t1876.2.2.2.2).length) n1898 t2090.2.2]) (rest := [b8 g1863 a1854 a1855 a1856, b8 g1866 a1857 a1858 a1859])⟩ HA2855).mono ?_
                  rintro e_ w2856 ⟨rfl, hS⟩
                  replace HS : Aside0 (Sep (fps []) w [b7 g1894 g1895 t1876.1 t1876.2.1 t1876.2.2.1 t1876.2.2.2.1, b6 g1895 A1896 ((t1876.2.2.2.2).length) n1898 t2105.2.1, r2 A1896 ((t1876.2.2.2.2).length) n1898 t2105.2.2, b8 g1863 a1854 a1855 a1856, b8 g1866 a1857 a1858 a1859] w2856) := ⟨HS.out.call (l := [b7 g1894 g1895 t1876.1 t1876.2.1 t1876.2.2.1 t1876.2.2.2.1, b6 g1895 A1896 ((t1876.2.2.2.2).length) n1898 t2090.2.1, r2 A1896 ((t1876.2.2.2.2).length) n1898 t2090.2.2]) (rest := [b8 g1863 a1854 a1855 a1856, b8 g1866 a1857 a1858 a1859]) hS⟩
                  clear hS
                  by_cases c2857 : t2105.1 = true
                  · have H := if_yes c2857 H
                    have c2857b0 : t2105.1 = true := c2857
                    have c2857b1 : (!t2105.1) = false := by rw [c2857b0]; rfl
                    try rw [c2857b1]
                    clear c2857
                    go_wp2_with fail
                    obtain ⟨t2109, HA2858, H⟩ := bind_some H
                    refine (ground_Ground_Words.calls t2105.2.2 t2105.2.1 t1876.1 t1876.2.1 t1876.2.2.1 t1876.2.2.2.1 g1894 g1895 A1896 ((t1876.2.2.2.2).length) n1898 t2109 _ ⟨HS.out.begin (l := [b7 g1894 g1895 t1876.1 t1876.2.1 t1876.2.2.1 t1876.2.2.2.1, b6 g1895 A1896 ((t1876.2.2.2.2).length) n1898 t2105.2.1, r2 A1896 ((t1876.2.2.2.2).length) n1898 t2105.2.2]) (rest := [b8 g1863 a1854 a1855 a1856, b8 g1866 a1857 a1858 a1859])⟩ HA2858).mono ?_
                    rintro e_ w2859 ⟨A2861, m2862, n2863, rfl, hS⟩
                    replace HS : Aside0 (Sep (fps []) w [b7 g1894 g1895 t1876.1 t1876.2.1 t1876.2.2.1 t1876.2.2.2.1, b6 g1895 A1896 ((t1876.2.2.2.2).length) n1898 t2105.2.1, r2 A1896 ((t1876.2.2.2.2).length) n1898 t2105.2.2, r2 A2861 m2862 n2863 t2109, b8 g1863 a1854 a1855 a1856, b8 g1866 a1857 a1858 a1859] w2859) := ⟨HS.out.call (l := [b7 g1894 g1895 t1876.1 t1876.2.1 t1876.2.2.1 t1876.2.2.2.1, b6 g1895 A1896 ((t1876.2.2.2.2).length) n1898 t2105.2.1, r2 A1896 ((t1876.2.2.2.2).length) n1898 t2105.2.2]) (rest := [b8 g1863 a1854 a1855 a1856, b8 g1866 a1857 a1858 a1859]) hS⟩
                    clear hS
                    obtain rfl := (row_len (HS.out.at3)).symm
                    go_wp2_with fail
                    obtain ⟨o2866, AL2867, H⟩ := bind_some H
                    go_loopg [9, 70] k (fun kq v9 v70 wc => ∃ (x2870 : Int) (x2871 : Int), v9 = .int .i64 x2870 ∧ v70 = .int .i64 x2871 ∧ Aside0 (quitrentlaw05_GroundApart.lo10 kq t2109 x2870 x2871 = some o2866) ∧ Aside0 (Sep (fps []) w [b7 g1894 g1895 t1876.1 t1876.2.1 t1876.2.2.1 t1876.2.2.2.1, b6 g1895 A1896 ((t1876.2.2.2.2).length) n1898 t2105.2.1, r2 A1896 ((t1876.2.2.2.2).length) n1898 t2105.2.2, r2 A2861 t2109.length n2863 t2109, b8 g1863 a1854 a1855 a1856, b8 g1866 a1857 a1858 a1859] wc))
                    case atStart => exact ⟨(0), (0), (by first | rfl | (simp [IntKind.wrap_u32]; done)), (by first | rfl | (simp [IntKind.wrap_u32]; done)), AL2867, ⟨HS.out⟩⟩
                    case round =>
                      clear AL2867 HS
                      obtain ⟨x2870, x2871, rfl, rfl, AL2867, HS⟩ := hrel
                      obtain ⟨w2868, rfl⟩ : ∃ x : World, x = wr := ⟨_, rfl⟩
                      cases gk with
                      | zero => exact absurd AL2867.out (by simp [quitrentlaw05_GroundApart.lo10])
                      | succ k2869 =>
                        have AL0 := AL2867.out
                        rw [quitrentlaw05_GroundApart.lo10] at AL0
                        clear AL2867
                        have AL2867 := Aside0.mk AL0
                        clear AL0
                        by_cases c2872 : x2871 < (t2109.length : Int)
                        · have AL2867 := if_yes c2872 AL2867
                          have c2872b0 : decide (x2871 < (t2109.length : Int)) = true := decide_eq_true c2872
                          clear c2872
                          by_cases c2873 : 0 ≤ x2871
                          · have AL2867 := if_yes c2873 AL2867
                            have c2873b0 : decide (0 ≤ x2871) = true := decide_eq_true c2873
                            have c2873p : (0 ≤ x2871) = True := eq_true c2873
                            clear c2873
                            have ip2874 : (x2871 < (t2109.length : Int)) = True := eq_true (of_decide_eq_true c2872b0)
                            by_cases c2878 : (rd t2109 x2871) = 0
                            · have AL2867 := if_yes c2878 AL2867
                              have c2878b0 : ((rd t2109 x2871) == 0) = true := beq_iff_eq.mpr c2878
                              have c2878b1 : ((rd t2109 x2871) != 0) = false := bne_eq_false_iff_eq.mpr c2878
                              clear c2878
                              obtain ⟨g2875, ea⟩ := row_at (HS.out.at3) (by have := (of_decide_eq_true c2873b0); have := (of_decide_eq_true c2872b0); omega); cases ea
                              have hx2876 := C_at_int (row_Ci (HS.out.at3)) x2871 (of_decide_eq_true c2873b0) (of_decide_eq_true c2872b0)
                              have hx2877 : w2868.cell? ⟨g2875, (x2871).toNat, none⟩ = some (.int .u32 (rd t2109 x2871)) := (row_get 0 (HS.out.at3) x2871 (of_decide_eq_true c2873b0) (of_decide_eq_true c2872b0)).1
                              go_wp2_with fail
                              clear hx2876 hx2877
                              go_roundg k2869
                              case measure => exact Nat.lt_succ_self _
                              case rel => exact ⟨(x2870), (wrap64 (x2871 + 1)), (by first | rfl | (simp [IntKind.wrap_u32]; done)), (by first | rfl | (simp [IntKind.wrap_u32]; done)), Aside0.mk AL2867.out, ⟨(((((((HS.out).front 5 (by simp)).front 5 (by simp)).front 5 (by simp)).front 5 (by simp)).front 5 (by simp)).front 5 (by simp)).keep (l := [b7 g1894 g1895 t1876.1 t1876.2.1 t1876.2.2.1 t1876.2.2.2.1, b6 g1895 A1896 ((t1876.2.2.2.2).length) n1898 t2105.2.1, r2 A1896 ((t1876.2.2.2.2).length) n1898 t2105.2.2, r2 (some ⟨g2875, 0, none⟩) t2109.length n2863 t2109, b8 g1863 a1854 a1855 a1856, b8 g1866 a1857 a1858 a1859]) (rest := [])⟩⟩
                            · have AL2867 := if_no c2878 AL2867
                              have c2878b0 : ((rd t2109 x2871) == 0) = false := beq_eq_false_iff_ne.mpr c2878
                              have c2878b1 : ((rd t2109 x2871) != 0) = true := bne_iff_ne.mpr c2878
                              clear c2878
                              obtain ⟨g2875, ea⟩ := row_at (HS.out.at3) (by have := (of_decide_eq_true c2873b0); have := (of_decide_eq_true c2872b0); omega); cases ea
                              have hx2876 := C_at_int (row_Ci (HS.out.at3)) x2871 (of_decide_eq_true c2873b0) (of_decide_eq_true c2872b0)
                              have hx2877 : w2868.cell? ⟨g2875, (x2871).toNat, none⟩ = some (.int .u32 (rd t2109 x2871)) := (row_get 0 (HS.out.at3) x2871 (of_decide_eq_true c2873b0) (of_decide_eq_true c2872b0)).1
                              go_wp2_with fail
                              clear hx2876 hx2877
                              go_roundg k2869
                              case measure => exact Nat.lt_succ_self _
                              case rel => exact ⟨(wrap64 (x2870 + 1)), (wrap64 (x2871 + 1)), (by first | rfl | (simp [IntKind.wrap_u32]; done)), (by first | rfl | (simp [IntKind.wrap_u32]; done)), Aside0.mk AL2867.out, ⟨(((((((HS.out).front 5 (by simp)).front 5 (by simp)).front 5 (by simp)).front 5 (by simp)).front 5 (by simp)).front 5 (by simp)).keep (l := [b7 g1894 g1895 t1876.1 t1876.2.1 t1876.2.2.1 t1876.2.2.2.1, b6 g1895 A1896 ((t1876.2.2.2.2).length) n1898 t2105.2.1, r2 A1896 ((t1876.2.2.2.2).length) n1898 t2105.2.2, r2 (some ⟨g2875, 0, none⟩) t2109.length n2863 t2109, b8 g1863 a1854 a1855 a1856, b8 g1866 a1857 a1858 a1859]) (rest := [])⟩⟩
                          · have AL2867 := if_no c2873 AL2867
                            have c2873b0 : decide (0 ≤ x2871) = false := decide_eq_false c2873
                            clear c2873
                            exact (none_no AL2867).elim
                        · have AL2867 := if_no c2872 AL2867
                          have c2872b0 : decide (x2871 < (t2109.length : Int)) = false := decide_eq_false c2872
                          clear c2872
                          have ho := some_eq AL2867
                          subst ho
                          clear AL2867
                          have hc2879 : w2868.cell? ⟨g1863, 0, none⟩ = some (.int .u8 a1854) := blk_cellv (HS.out.at4) 0 rfl
                          have hc2880 : w2868.cell? ⟨g1863, 1, none⟩ = some (.int .i64 a1855) := blk_cellv (HS.out.at4) 1 rfl
                          have hc2881 : w2868.cell? ⟨g1863, 2, none⟩ = some (.int .i64 a1856) := blk_cellv (HS.out.at4) 2 rfl
                          go_wp2_with fail
                          clear hc2879 hc2880 hc2881
                          obtain ⟨t2249, HA2882, H⟩ := bind_some H
                          refine (quitrentlaw05_get.calls t2105.2.2 t2105.2.1 t1876.1 t1876.2.1 t1876.2.2.1 t1876.2.2.2.1 a1854 a1855 a1856 g1894 g1895 A1896 ((t1876.2.2.2.2).length) n1898 t2249 _ ⟨HS.out.begin (l := [b7 g1894 g1895 t1876.1 t1876.2.1 t1876.2.2.1 t1876.2.2.2.1, b6 g1895 A1896 ((t1876.2.2.2.2).length) n1898 t2105.2.1, r2 A1896 ((t1876.2.2.2.2).length) n1898 t2105.2.2]) (rest := [r2 A2861 t2109.length n2863 t2109, b8 g1863 a1854 a1855 a1856, b8 g1866 a1857 a1858 a1859])⟩ HA2882).mono ?_
                          rintro e_ w2883 ⟨rfl, hS⟩
                          replace HS : Aside0 (Sep (fps []) w [b7 g1894 g1895 t1876.1 t1876.2.1 t1876.2.2.1 t1876.2.2.2.1, b6 g1895 A1896 ((t1876.2.2.2.2).length) n1898 t2249.2, r2 A1896 ((t1876.2.2.2.2).length) n1898 t2105.2.2, r2 A2861 t2109.length n2863 t2109, b8 g1863 a1854 a1855 a1856, b8 g1866 a1857 a1858 a1859] w2883) := ⟨HS.out.call (l := [b7 g1894 g1895 t1876.1 t1876.2.1 t1876.2.2.1 t1876.2.2.2.1, b6 g1895 A1896 ((t1876.2.2.2.2).length) n1898 t2105.2.1, r2 A1896 ((t1876.2.2.2.2).length) n1898 t2105.2.2]) (rest := [r2 A2861 t2109.length n2863 t2109, b8 g1863 a1854 a1855 a1856, b8 g1866 a1857 a1858 a1859]) hS⟩
                          clear hS
                          by_cases c2884 : t2249.1 = 5
                          · have H := if_yes c2884 H
                            have c2884b0 : (t2249.1 == 5) = true := beq_iff_eq.mpr c2884
                            have c2884b1 : (t2249.1 != 5) = false := bne_eq_false_iff_eq.mpr c2884
                            clear c2884
                            have hc2885 : w2883.cell? ⟨g1866, 0, none⟩ = some (.int .u8 a1857) := blk_cellv (HS.out.at5) 0 rfl
                            have hc2886 : w2883.cell? ⟨g1866, 1, none⟩ = some (.int .i64 a1858) := blk_cellv (HS.out.at5) 1 rfl
                            have hc2887 : w2883.cell? ⟨g1866, 2, none⟩ = some (.int .i64 a1859) := blk_cellv (HS.out.at5) 2 rfl
                            go_wp2_with fail
                            clear hc2885 hc2886 hc2887
                            obtain ⟨t2256, HA2888, H⟩ := bind_some H
                            refine (quitrentlaw05_get.calls t2105.2.2 t2249.2 t1876.1 t1876.2.1 t1876.2.2.1 t1876.2.2.2.1 a1857 a1858 a1859 g1894 g1895 A1896 ((t1876.2.2.2.2).length) n1898 t2256 _ ⟨HS.out.begin (l := [b7 g1894 g1895 t1876.1 t1876.2.1 t1876.2.2.1 t1876.2.2.2.1, b6 g1895 A1896 ((t1876.2.2.2.2).length) n1898 t2249.2, r2 A1896 ((t1876.2.2.2.2).length) n1898 t2105.2.2]) (rest := [r2 A2861 t2109.length n2863 t2109, b8 g1863 a1854 a1855 a1856, b8 g1866 a1857 a1858 a1859])⟩ HA2888).mono ?_
                            rintro e_ w2889 ⟨rfl, hS⟩
                            replace HS : Aside0 (Sep (fps []) w [b7 g1894 g1895 t1876.1 t1876.2.1 t1876.2.2.1 t1876.2.2.2.1, b6 g1895 A1896 ((t1876.2.2.2.2).length) n1898 t2256.2, r2 A1896 ((t1876.2.2.2.2).length) n1898 t2105.2.2, r2 A2861 t2109.length n2863 t2109, b8 g1863 a1854 a1855 a1856, b8 g1866 a1857 a1858 a1859] w2889) := ⟨HS.out.call (l := [b7 g1894 g1895 t1876.1 t1876.2.1 t1876.2.2.1 t1876.2.2.2.1, b6 g1895 A1896 ((t1876.2.2.2.2).length) n1898 t2249.2, r2 A1896 ((t1876.2.2.2.2).length) n1898 t2105.2.2]) (rest := [r2 A2861 t2109.length n2863 t2109, b8 g1863 a1854 a1855 a1856, b8 g1866 a1857 a1858 a1859]) hS⟩
                            clear hS
                            by_cases c2890 : t2256.1 = 6
                            · have H := if_yes c2890 H
                              have c2890b0 : (t2256.1 == 6) = true := beq_iff_eq.mpr c2890
                              have c2890b1 : (t2256.1 != 6) = false := bne_eq_false_iff_eq.mpr c2890
                              clear c2890
                              by_cases c2891 : x2870 = 2
                              · have H := if_yes c2891 H
                                have c2891b0 : (x2870 == 2) = true := beq_iff_eq.mpr c2891
                                have c2891b1 : (x2870 != 2) = false := bne_eq_false_iff_eq.mpr c2891
                                clear c2891
                                go_wp2_with fail
                                obtain ⟨t2261, HA2892, H⟩ := bind_some H
                                refine (quitrentlaw05_begun.calls _ t2261 _ ⟨HS.out.begin (l := []) (rest := [b7 g1894 g1895 t1876.1 t1876.2.1 t1876.2.2.1 t1876.2.2.2.1, b6 g1895 A1896 ((t1876.2.2.2.2).length) n1898 t2256.2, r2 A1896 ((t1876.2.2.2.2).length) n1898 t2105.2.2, r2 A2861 t2109.length n2863 t2109, b8 g1863 a1854 a1855 a1856, b8 g1866 a1857 a1858 a1859])⟩ HA2892).mono ?_
                                rintro e_ w2893 ⟨rfl, hS⟩
                                replace HS : Aside0 (Sep (fps []) w [b7 g1894 g1895 t1876.1 t1876.2.1 t1876.2.2.1 t1876.2.2.2.1, b6 g1895 A1896 ((t1876.2.2.2.2).length) n1898 t2256.2, r2 A1896 ((t1876.2.2.2.2).length) n1898 t2105.2.2, r2 A2861 t2109.length n2863 t2109, b8 g1863 a1854 a1855 a1856, b8 g1866 a1857 a1858 a1859] w2893) := ⟨HS.out.call (l := []) (rest := [b7 g1894 g1895 t1876.1 t1876.2.1 t1876.2.2.1 t1876.2.2.2.1, b6 g1895 A1896 ((t1876.2.2.2.2).length) n1898 t2256.2, r2 A1896 ((t1876.2.2.2.2).length) n1898 t2105.2.2, r2 A2861 t2109.length n2863 t2109, b8 g1863 a1854 a1855 a1856, b8 g1866 a1857 a1858 a1859]) hS⟩
                                clear hS
                                replace HS : Aside0 (Sep (fps []) w [] w2893) := ⟨HS.out.sub (.cons _ (.cons _ (.cons _ (.cons _ (.cons _ (.cons _ .slnil))))))⟩
                                go_wp2_with fail
                                go_ret
                                rw [← some_eq H]
                                exact ⟨(by first | rfl | (simp [IntKind.wrap_u32]; done)), (HS.out).keep (l := []) (rest := [])⟩
                              · have H := if_no c2891 H
                                have c2891b0 : (x2870 == 2) = false := beq_eq_false_iff_ne.mpr c2891
                                have c2891b1 : (x2870 != 2) = true := bne_iff_ne.mpr c2891
                                clear c2891
                                replace HS : Aside0 (Sep (fps []) w [] w2889) := ⟨HS.out.sub (.cons _ (.cons _ (.cons _ (.cons _ (.cons _ (.cons _ .slnil))))))⟩
                                go_wp2_with fail
                                go_ret
                                rw [← some_eq H]
                                exact ⟨(by first | rfl | (simp [IntKind.wrap_u32]; done)), (HS.out).keep (l := []) (rest := [])⟩
                            · have H := if_no c2890 H
                              have c2890b0 : (t2256.1 == 6) = false := beq_eq_false_iff_ne.mpr c2890
                              have c2890b1 : (t2256.1 != 6) = true := bne_iff_ne.mpr c2890
                              clear c2890
                              replace HS : Aside0 (Sep (fps []) w [] w2889) := ⟨HS.out.sub (.cons _ (.cons _ (.cons _ (.cons _ (.cons _ (.cons _ .slnil))))))⟩
                              go_wp2_with fail
                              go_ret
                              rw [← some_eq H]
                              exact ⟨(by first | rfl | (simp [IntKind.wrap_u32]; done)), (HS.out).keep (l := []) (rest := [])⟩
                          · have H := if_no c2884 H
                            have c2884b0 : (t2249.1 == 5) = false := beq_eq_false_iff_ne.mpr c2884
                            have c2884b1 : (t2249.1 != 5) = true := bne_iff_ne.mpr c2884
                            clear c2884
                            replace HS : Aside0 (Sep (fps []) w [] w2883) := ⟨HS.out.sub (.cons _ (.cons _ (.cons _ (.cons _ (.cons _ (.cons _ .slnil))))))⟩
                            go_wp2_with fail
                            go_ret
                            rw [← some_eq H]
                            exact ⟨(by first | rfl | (simp [IntKind.wrap_u32]; done)), (HS.out).keep (l := []) (rest := [])⟩
                  · have H := if_no c2857 H
                    have c2857b0 : t2105.1 = false := by simpa using c2857
                    have c2857b1 : (!t2105.1) = true := by rw [c2857b0]; rfl
                    try rw [c2857b1]
                    clear c2857
                    go_wp2_with fail
                    obtain ⟨t2102, HA2910, H⟩ := bind_some H
                    refine (quitrentlaw05_begun.calls _ t2102 _ ⟨HS.out.begin (l := []) (rest := [b7 g1894 g1895 t1876.1 t1876.2.1 t1876.2.2.1 t1876.2.2.2.1, b6 g1895 A1896 ((t1876.2.2.2.2).length) n1898 t2105.2.1, r2 A1896 ((t1876.2.2.2.2).length) n1898 t2105.2.2, b8 g1863 a1854 a1855 a1856, b8 g1866 a1857 a1858 a1859])⟩ HA2910).mono ?_
                    rintro e_ w2911 ⟨rfl, hS⟩
                    replace HS : Aside0 (Sep (fps []) w [b7 g1894 g1895 t1876.1 t1876.2.1 t1876.2.2.1 t1876.2.2.2.1, b6 g1895 A1896 ((t1876.2.2.2.2).length) n1898 t2105.2.1, r2 A1896 ((t1876.2.2.2.2).length) n1898 t2105.2.2, b8 g1863 a1854 a1855 a1856, b8 g1866 a1857 a1858 a1859] w2911) := ⟨HS.out.call (l := []) (rest := [b7 g1894 g1895 t1876.1 t1876.2.1 t1876.2.2.1 t1876.2.2.2.1, b6 g1895 A1896 ((t1876.2.2.2.2).length) n1898 t2105.2.1, r2 A1896 ((t1876.2.2.2.2).length) n1898 t2105.2.2, b8 g1863 a1854 a1855 a1856, b8 g1866 a1857 a1858 a1859]) hS⟩
                    clear hS
                    replace HS : Aside0 (Sep (fps []) w [] w2911) := ⟨HS.out.sub (.cons _ (.cons _ (.cons _ (.cons _ (.cons _ .slnil)))))⟩
                    go_wp2_with fail
                    go_ret
                    rw [← some_eq H]
                    exact ⟨(by first | rfl | (simp [IntKind.wrap_u32]; done)), (HS.out).keep (l := []) (rest := [])⟩
              · have H := if_no c2729 H
                have c2729b0 : t2090.1 = false := by simpa using c2729
                have c2729b1 : (!t2090.1) = true := by rw [c2729b0]; rfl
                try rw [c2729b1]
                clear c2729
                go_wp2_with fail
                obtain ⟨t2102, HA2912, H⟩ := bind_some H
                refine (quitrentlaw05_begun.calls _ t2102 _ ⟨HS.out.begin (l := []) (rest := [b7 g1894 g1895 t1876.1 t1876.2.1 t1876.2.2.1 t1876.2.2.2.1, b6 g1895 A1896 ((t1876.2.2.2.2).length) n1898 t2090.2.1, r2 A1896 ((t1876.2.2.2.2).length) n1898 t2090.2.2, b8 g1863 a1854 a1855 a1856, b8 g1866 a1857 a1858 a1859])⟩ HA2912).mono ?_
                rintro e_ w2913 ⟨rfl, hS⟩
                replace HS : Aside0 (Sep (fps []) w [b7 g1894 g1895 t1876.1 t1876.2.1 t1876.2.2.1 t1876.2.2.2.1, b6 g1895 A1896 ((t1876.2.2.2.2).length) n1898 t2090.2.1, r2 A1896 ((t1876.2.2.2.2).length) n1898 t2090.2.2, b8 g1863 a1854 a1855 a1856, b8 g1866 a1857 a1858 a1859] w2913) := ⟨HS.out.call (l := []) (rest := [b7 g1894 g1895 t1876.1 t1876.2.1 t1876.2.2.1 t1876.2.2.2.1, b6 g1895 A1896 ((t1876.2.2.2.2).length) n1898 t2090.2.1, r2 A1896 ((t1876.2.2.2.2).length) n1898 t2090.2.2, b8 g1863 a1854 a1855 a1856, b8 g1866 a1857 a1858 a1859]) hS⟩
                clear hS
                replace HS : Aside0 (Sep (fps []) w [] w2913) := ⟨HS.out.sub (.cons _ (.cons _ (.cons _ (.cons _ (.cons _ .slnil)))))⟩
                go_wp2_with fail
                go_ret
                rw [← some_eq H]
                exact ⟨(by first | rfl | (simp [IntKind.wrap_u32]; done)), (HS.out).keep (l := []) (rest := [])⟩
    · have H := if_no c1907 H
      have c1907b0 : t1904 = false := by simpa using c1907
      have c1907b1 : (!t1904) = true := by rw [c1907b0]; rfl
      try rw [c1907b1]
      clear c1907
      replace HS : Aside0 (Sep (fps []) w [b7 g1894 g1895 t1876.1 t1876.2.1 t1876.2.2.1 t1876.2.2.2.1, b6 g1895 A1896 ((t1876.2.2.2.2).length) n1898 0, r2 A1896 ((t1876.2.2.2.2).length) n1898 t1876.2.2.2.2, b8 g1863 a1854 a1855 a1856, b8 g1866 a1857 a1858 a1859] w1906) := ⟨HS.out.sub (.cons_cons _ (.cons_cons _ (.cons_cons _ (.cons _ (.cons_cons _ (.cons_cons _ .slnil))))))⟩
      go_wp2_with fail
      obtain ⟨t1910, HA2914, H⟩ := bind_some H
      refine (quitrentlaw05_begun.calls _ t1910 _ ⟨HS.out.begin (l := []) (rest := [b7 g1894 g1895 t1876.1 t1876.2.1 t1876.2.2.1 t1876.2.2.2.1, b6 g1895 A1896 ((t1876.2.2.2.2).length) n1898 0, r2 A1896 ((t1876.2.2.2.2).length) n1898 t1876.2.2.2.2, b8 g1863 a1854 a1855 a1856, b8 g1866 a1857 a1858 a1859])⟩ HA2914).mono ?_
      rintro e_ w2915 ⟨rfl, hS⟩
      replace HS : Aside0 (Sep (fps []) w [b7 g1894 g1895 t1876.1 t1876.2.1 t1876.2.2.1 t1876.2.2.2.1, b6 g1895 A1896 ((t1876.2.2.2.2).length) n1898 0, r2 A1896 ((t1876.2.2.2.2).length) n1898 t1876.2.2.2.2, b8 g1863 a1854 a1855 a1856, b8 g1866 a1857 a1858 a1859] w2915) := ⟨HS.out.call (l := []) (rest := [b7 g1894 g1895 t1876.1 t1876.2.1 t1876.2.2.1 t1876.2.2.2.1, b6 g1895 A1896 ((t1876.2.2.2.2).length) n1898 0, r2 A1896 ((t1876.2.2.2.2).length) n1898 t1876.2.2.2.2, b8 g1863 a1854 a1855 a1856, b8 g1866 a1857 a1858 a1859]) hS⟩
      clear hS
      replace HS : Aside0 (Sep (fps []) w [] w2915) := ⟨HS.out.sub (.cons _ (.cons _ (.cons _ (.cons _ (.cons _ .slnil)))))⟩
      go_wp2_with fail
      go_ret
      rw [← some_eq H]
      exact ⟨(by first | rfl | (simp [IntKind.wrap_u32]; done)), (HS.out).keep (l := []) (rest := [])⟩
  · have H := sum_r H
    have H := sum_r H
    refine (ground_New.calls _ a1850 a1851 a1852 a1853 (.inr (.inr t1877)) _ ⟨HS.out.begin (l := []) (rest := [b1 g1860 a1850 a1851 a1852 a1853, b8 g1863 a1854 a1855 a1856, b8 g1866 a1857 a1858 a1859])⟩ HA1874).mono ?_
    rintro e_ w2916 ⟨rfl, hS⟩
    replace HS : Aside0 (Sep (fps []) w [b1 g1860 a1850 a1851 a1852 a1853, b8 g1863 a1854 a1855 a1856, b8 g1866 a1857 a1858 a1859] w2916) := ⟨HS.out.call (l := []) (rest := [b1 g1860 a1850 a1851 a1852 a1853, b8 g1863 a1854 a1855 a1856, b8 g1866 a1857 a1858 a1859]) hS⟩
    clear hS
    by_cases c2917 : t1877 = 0
    · have H := if_yes c2917 H
      have c2917b0 : (t1877 == 0) = true := beq_iff_eq.mpr c2917
      have c2917b1 : (t1877 != 0) = false := bne_eq_false_iff_eq.mpr c2917
      clear c2917
      have hc2918 : w2916.cell? ⟨g1860, 0, none⟩ = some (.int .i64 a1850) := blk_cellv (HS.out.at0) 0 rfl
      have hc2919 : w2916.cell? ⟨g1860, 1, none⟩ = some (.int .i64 a1851) := blk_cellv (HS.out.at0) 1 rfl
      have hc2920 : w2916.cell? ⟨g1860, 2, none⟩ = some (.int .i64 a1852) := blk_cellv (HS.out.at0) 2 rfl
      have hc2921 : w2916.cell? ⟨g1860, 3, none⟩ = some (.int .i64 a1853) := blk_cellv (HS.out.at0) 3 rfl
      go_wp2_with fail
      clear hc2918 hc2919 hc2920 hc2921
      obtain ⟨t1883, HA2922, H⟩ := bind_some H
      refine (quitrentref03_May.calls a1850 a1851 a1852 a1853 t1883 _ ⟨HS.out.begin (l := []) (rest := [b1 g1860 a1850 a1851 a1852 a1853, b8 g1863 a1854 a1855 a1856, b8 g1866 a1857 a1858 a1859])⟩ HA2922).mono ?_
      rintro e_ w2923 ⟨rfl, hS⟩
      replace HS : Aside0 (Sep (fps []) w [b1 g1860 a1850 a1851 a1852 a1853, b8 g1863 a1854 a1855 a1856, b8 g1866 a1857 a1858 a1859] w2923) := ⟨HS.out.call (l := []) (rest := [b1 g1860 a1850 a1851 a1852 a1853, b8 g1863 a1854 a1855 a1856, b8 g1866 a1857 a1858 a1859]) hS⟩
      clear hS
      by_cases c2924 : t1883 = true
      · have H := if_yes c2924 H
        have c2924b0 : t1883 = true := c2924
        have c2924b1 : (!t1883) = false := by rw [c2924b0]; rfl
        try rw [c2924b1]
        clear c2924
        replace HS : Aside0 (Sep (fps []) w [] w2923) := ⟨HS.out.sub (.cons _ (.cons _ (.cons _ .slnil)))⟩
        go_wp2_with fail
        go_ret
        rw [← some_eq H]
        exact ⟨(by first | rfl | (simp [IntKind.wrap_u32]; done)), (HS.out).keep (l := []) (rest := [])⟩
      · have H := if_no c2924 H
        have c2924b0 : t1883 = false := by simpa using c2924
        have c2924b1 : (!t1883) = true := by rw [c2924b0]; rfl
        try rw [c2924b1]
        clear c2924
        go_wp2_with fail
        obtain ⟨t1887, HA2925, H⟩ := bind_some H
        refine (quitrentlaw05_begun.calls _ t1887 _ ⟨HS.out.begin (l := []) (rest := [b1 g1860 a1850 a1851 a1852 a1853, b8 g1863 a1854 a1855 a1856, b8 g1866 a1857 a1858 a1859])⟩ HA2925).mono ?_
        rintro e_ w2926 ⟨rfl, hS⟩
        replace HS : Aside0 (Sep (fps []) w [b1 g1860 a1850 a1851 a1852 a1853, b8 g1863 a1854 a1855 a1856, b8 g1866 a1857 a1858 a1859] w2926) := ⟨HS.out.call (l := []) (rest := [b1 g1860 a1850 a1851 a1852 a1853, b8 g1863 a1854 a1855 a1856, b8 g1866 a1857 a1858 a1859]) hS⟩
        clear hS
        replace HS : Aside0 (Sep (fps []) w [] w2926) := ⟨HS.out.sub (.cons _ (.cons _ (.cons _ .slnil)))⟩
        go_wp2_with fail
        go_ret
        rw [← some_eq H]
        exact ⟨(by first | rfl | (simp [IntKind.wrap_u32]; done)), (HS.out).keep (l := []) (rest := [])⟩
    · have H := if_no c2917 H
      have c2917b0 : (t1877 == 0) = false := beq_eq_false_iff_ne.mpr c2917
      have c2917b1 : (t1877 != 0) = true := bne_iff_ne.mpr c2917
      clear c2917
      have hc2927 : w2916.cell? ⟨g1860, 0, none⟩ = some (.int .i64 a1850) := blk_cellv (HS.out.at0) 0 rfl
      have hc2928 : w2916.cell? ⟨g1860, 1, none⟩ = some (.int .i64 a1851) := blk_cellv (HS.out.at0) 1 rfl
      have hc2929 : w2916.cell? ⟨g1860, 2, none⟩ = some (.int .i64 a1852) := blk_cellv (HS.out.at0) 2 rfl
      have hc2930 : w2916.cell? ⟨g1860, 3, none⟩ = some (.int .i64 a1853) := blk_cellv (HS.out.at0) 3 rfl
      go_wp2_with fail
      clear hc2927 hc2928 hc2929 hc2930
      obtain ⟨t1883, HA2931, H⟩ := bind_some H
      refine (quitrentref03_May.calls a1850 a1851 a1852 a1853 t1883 _ ⟨HS.out.begin (l := []) (rest := [b1 g1860 a1850 a1851 a1852 a1853, b8 g1863 a1854 a1855 a1856, b8 g1866 a1857 a1858 a1859])⟩ HA2931).mono ?_
      rintro e_ w2932 ⟨rfl, hS⟩
      replace HS : Aside0 (Sep (fps []) w [b1 g1860 a1850 a1851 a1852 a1853, b8 g1863 a1854 a1855 a1856, b8 g1866 a1857 a1858 a1859] w2932) := ⟨HS.out.call (l := []) (rest := [b1 g1860 a1850 a1851 a1852 a1853, b8 g1863 a1854 a1855 a1856, b8 g1866 a1857 a1858 a1859]) hS⟩
      clear hS
      by_cases c2933 : t1883 = true
      · have H := if_yes c2933 H
        have c2933b0 : t1883 = true := c2933
        have c2933b1 : (!t1883) = false := by rw [c2933b0]; rfl
        try rw [c2933b1]
        clear c2933
        replace HS : Aside0 (Sep (fps []) w [] w2932) := ⟨HS.out.sub (.cons _ (.cons _ (.cons _ .slnil)))⟩
        go_wp2_with fail
        go_ret
        rw [← some_eq H]
        exact ⟨(by first | rfl | (simp [IntKind.wrap_u32]; done)), (HS.out).keep (l := []) (rest := [])⟩
      · have H := if_no c2933 H
        have c2933b0 : t1883 = false := by simpa using c2933
        have c2933b1 : (!t1883) = true := by rw [c2933b0]; rfl
        try rw [c2933b1]
        clear c2933
        go_wp2_with fail
        obtain ⟨t1887, HA2934, H⟩ := bind_some H
        refine (quitrentlaw05_begun.calls _ t1887 _ ⟨HS.out.begin (l := []) (rest := [b1 g1860 a1850 a1851 a1852 a1853, b8 g1863 a1854 a1855 a1856, b8 g1866 a1857 a1858 a1859])⟩ HA2934).mono ?_
        rintro e_ w2935 ⟨rfl, hS⟩
        replace HS : Aside0 (Sep (fps []) w [b1 g1860 a1850 a1851 a1852 a1853, b8 g1863 a1854 a1855 a1856, b8 g1866 a1857 a1858 a1859] w2935) := ⟨HS.out.call (l := []) (rest := [b1 g1860 a1850 a1851 a1852 a1853, b8 g1863 a1854 a1855 a1856, b8 g1866 a1857 a1858 a1859]) hS⟩
        clear hS
        replace HS : Aside0 (Sep (fps []) w [] w2935) := ⟨HS.out.sub (.cons _ (.cons _ (.cons _ .slnil)))⟩
        go_wp2_with fail
        go_ret
        rw [← some_eq H]
        exact ⟨(by first | rfl | (simp [IntKind.wrap_u32]; done)), (HS.out).keep (l := []) (rest := [])⟩
end Go.Proofs.Ytobeonkddamnoaa.C
