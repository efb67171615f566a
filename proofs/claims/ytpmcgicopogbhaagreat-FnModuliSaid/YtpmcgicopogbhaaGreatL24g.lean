/- Chapter 18: the logarithm of a formula for values, in the program. Conditions: as stated at each contract. -/
import Derived.Test.YtpmcgicopogbhaaGreatProg
import Derived.Test.YtpmcgicopogbhaaGreatBase
import Derived.Test.YtpmcgicopogbhaaGreatZy
import Derived.Test.YtpmcgicopogbhaaGreatL01
import Derived.Test.YtpmcgicopogbhaaGreatCp
import Derived.Test.YtpmcgicopogbhaaGreatL18
import Derived.Test.YtpmcgicopogbhaaGreatL23
import Derived.Test.YtpmcgicopogbhaaGreatL03
import Derived.Test.YtpmcgicopogbhaaGreatL23d
import Derived.Test.YtpmcgicopogbhaaGreatL23e
import Derived.Test.YtpmcgicopogbhaaGreatL24
import Derived.Test.YtpmcgicopogbhaaGreatL24b
import Derived.WalkKit
import Derived.WalkSpells
import Derived.WalkLawsBesides
import Derived.Lib.Hide
import Derived.Deep.QuietTactic
import Derived.BigQuiet
import Derived.Deep.Draws
import Derived.Deep.RegionHeld3
namespace Go.Proofs.YtpmcgicopogbhaaGreat
set_option linter.unusedSimpArgs false
open Go.RowKit
set_option linter.unusedVariables false
set_option maxRecDepth 50000 in
set_option maxHeartbeats 8000000 in
theorem formulaLog_c (C : Ch) (A : Option Addr) (c : Nat) (B : Option Addr) (d : Nat) (ps : List (Int × Int)) (h : okCh C = true) (hp : okFs ps = true) (h2 : ps.length ≤ 2) (w : World) (hA : Ints w A C.zs) (hB : Prs w B ps) :
    Calls Tryz.prog 61 #[.agg #[.int .i64 C.dg, .int .i64 C.tn, .string C.nm, .slice A C.zs.length c], .slice B ps.length d] w fun r w' => r = .returned (.agg #[.int .i64 (fmT C ps ps.length).1, .int .i64 (fmT C ps ps.length).2]) ∧ Below w.heap.size w w' := by
  obtain ⟨⟨d1, d2, d3, d4⟩, ⟨z1, z2⟩, _⟩ := okCh_iff h
  have HA := Lib.hid hA
  have HB := Lib.hid hB
  have H0 := Lib.hid h
  have HP := Lib.hid hp
  clear hA hB h hp
  go_enter Tryz.func61, Tryz.ntmps61
  go_wp2_with fail
  go_at_call 108; refine (figureLog_c _ _ (by omega) (by omega) (by omega) (by omega) _).mono ?_; rintro e w1 ⟨rfl, hb1⟩; obtain ⟨hc1, hf1, hz1⟩ := bel hb1; (try simp only [World.size_drew, World.cell?_drew, World.frozen?_drew, World.heap_drewN, World.cell?_drewN, World.frozen?_drewN] at hc1 hf1 hz1); (try have hl1 : w.heap.size < w1.heap.size := zl hb1); (try have hm1 : w.heap.size + 1 < w1.heap.size := zl hb1); (try have hn1 : w.heap.size + 1 + 1 < w1.heap.size := zl hb1); (try have hp1 : b < w1.heap.size := zl hb1); (try have ho1 : b' < w1.heap.size := by (have hq := hb1.size; (try simp at hq); omega))
  have hbel1 : Below w.heap.size w w1 := by repeat (with_reducible first | exact Below.refl _ _ | assumption | refine Bel.alloc ?_ _ | refine Bel.step (by assumption) ?_ | refine Below.drew ?_ | refine Bel.drewN ?_ _ | refine Below.setCell ?_ (by first | exact Nat.le_refl _ | omega | (simp; done) | (simp; omega)) _)
  have BF : Hid (Blk w1 w.heap.size 28 #[.int .i64 C.dg, .int .i64 C.tn, .string C.nm, .slice A C.zs.length c]) := Lib.hid (Blk.step hb1 (Blk.alloc _ (Blk.new _ _ _)))
  have BR : Hid (Blk w1 (w.heap.size + 1) 92 #[.int .i64 0, .int .i64 0]) := Lib.hid (Blk.step hb1 (by simpa using Blk.new (w.alloc (.cells #[.int .i64 C.dg, .int .i64 C.tn, .string C.nm, .slice A C.zs.length c] 28)) 92 #[.int .i64 0, .int .i64 0]))
  have hs1 : w.heap.size + 1 < w1.heap.size := BR.out.lt
  clear hb1 hc1 hf1 hz1
  go_wp2
  go_loopw [6, 7, 13] (fun _ _ i wr => ∃ k : Nat, k ≤ ps.length ∧ i = .int .i64 k ∧ Hid (Blk wr w1.heap.size 92 #[.int .i64 (fmT C ps k).1, .int .i64 (fmT C ps k).2]) ∧ Hid (Blk wr w.heap.size 28 #[.int .i64 C.dg, .int .i64 C.tn, .string C.nm, .slice A C.zs.length c]) ∧ Hid (Blk wr (w.heap.size + 1) 92 #[.int .i64 0, .int .i64 0]) ∧ Below w.heap.size w wr) (fun _ _ i _ => ps.length - (intOf i).toNat)
  case atStart => exact ⟨0, Nat.zero_le _, rfl, Lib.hid (Blk.new _ _ _), Lib.hid (Blk.alloc _ BF.out), Lib.hid (Blk.alloc _ BR.out), by repeat (with_reducible first | exact Below.refl _ _ | assumption | refine Bel.alloc ?_ _ | refine Bel.step (by assumption) ?_ | refine Below.drew ?_ | refine Bel.drewN ?_ _ | refine Below.setCell ?_ (by first | exact Nat.le_refl _ | omega | (simp; done) | (simp; omega)) _)⟩
  case round =>
    obtain ⟨k, hk, rfl, HO, HF, HR, hbel⟩ := hrel
    have o0 : wr.cell? ⟨w1.heap.size, 0, none⟩ = some (.int .i64 (fmT C ps k).1) := by rw [HO.out.cell]; rfl
    have o1 : wr.cell? ⟨w1.heap.size, 1, none⟩ = some (.int .i64 (fmT C ps k).2) := by rw [HO.out.cell]; rfl
    have of0 := HO.out.frozen 0
    have of1 := HO.out.frozen 1
    have olt := HO.out.lt
    obtain ⟨b1, b2, b3, b4⟩ := fmT_bd H0.out HP.out h2 k hk
    by_cases hlt : k < ps.length
    · have f3 : wr.cell? ⟨w.heap.size, 3, none⟩ = some (.slice A C.zs.length c) := by rw [HF.out.cell]; rfl
      have hkz : k < C.zs.length := by omega
      obtain ⟨bz, oz, rfl, hbz, hcz⟩ := (Ints.step hbel HA.out).at_ k hkz
      rw [← getD_at 0 _ _ hkz] at hcz
      have hbz0 : bz < w.heap.size := by obtain ⟨_, _, e', h', _⟩ := HA.out.at_ k hkz; cases e'; exact h'
      obtain ⟨bv, ov, rfl, hbv, hcall⟩ := Prs.step hbel HB.out (by omega)
      obtain ⟨v0, v1⟩ := hcall k hlt
      have hbv0 : bv < w.heap.size := by obtain ⟨_, _, e', h', _⟩ := HB.out (by omega); cases e'; exact h'
      obtain ⟨⟨g1, g2, g3, g4⟩, ⟨q1, q2⟩, ⟨m1, m2⟩, m3, m4⟩ := fm_step H0.out HP.out hlt h2
      obtain ⟨p1, p2, p3, p4⟩ := okF_iff (okFs_at HP.out hlt)
      have HS := Lib.hid (fm_succ C ps k)
      clear hcall
      generalize (ps.getD k (0, 0)).1 = vd at *
      generalize (ps.getD k (0, 0)).2 = vt at *
      generalize C.zs.getD k 0 = z at *
      generalize fmT C ps k = T at *
      generalize T.1 = T1 at *
      generalize T.2 = T2 at *
      have flt := HF.out.lt
      have nO : w.heap.size ≠ w1.heap.size := by omega
      have nO1 : w.heap.size + 1 ≠ w1.heap.size := by omega
      have flt1 : w.heap.size + 1 < wr.heap.size := HR.out.lt
      have nz1 : bz ≠ w1.heap.size := by omega
      have nz2 : w1.heap.size ≠ bz := by omega
      have nv1 : bv ≠ w1.heap.size := by omega
      have nv2 : w1.heap.size ≠ bv := by omega
      have nO2 : w1.heap.size ≠ w.heap.size := by omega
      generalize w1.heap.size = O at *
      go_wp2
      generalize hV : wr.alloc (.cells #[.int .i64 vd, .int .i64 vt] 25) = V
      have hbV : Below wr.heap.size wr V := by rw [← hV]; repeat (with_reducible first | exact Below.refl _ _ | assumption | refine Bel.alloc ?_ _ | refine Bel.step (by assumption) ?_ | refine Below.drew ?_ | refine Bel.drewN ?_ _ | refine Below.setCell ?_ (by first | exact Nat.le_refl _ | omega | (simp; done) | (simp; omega)) _)
      have v0 : V.cell? ⟨wr.heap.size, 0, none⟩ = some (.int .i64 vd) := by rw [← hV]; simp [go_sem]
      have v1 : V.cell? ⟨wr.heap.size, 1, none⟩ = some (.int .i64 vt) := by rw [← hV]; simp [go_sem]
      have bvV : wr.heap.size < V.heap.size := by rw [← hV]; simp
      obtain ⟨hcV, hfV, hzV⟩ := bel hbV
      have o0 := (hcV _ _ olt).trans o0
      have o1 := (hcV _ _ olt).trans o1
      have of0 := (hfV _ _ olt).trans of0
      have of1 := (hfV _ _ olt).trans of1
      have f3 := (hcV _ _ flt).trans f3
      have hcz := (hcV _ _ hbz).trans hcz
      have HO := Lib.hid (Blk.step hbV HO.out)
      have HF := Lib.hid (Blk.step hbV HF.out)
      have HR := Lib.hid (Blk.step hbV HR.out)
      have hbel := Bel.step hbV hbel
      have oltr := olt
      have olt := hzV _ olt
      have flt := hzV _ flt
      have flt1 := hzV _ flt1
      have hbz := hzV _ hbz
      have nv1 : wr.heap.size ≠ O := Nat.ne_of_gt oltr
      have nv2 : O ≠ wr.heap.size := Nat.ne_of_lt oltr
      clear oltr
      clear hV hbV hcV hfV hzV hbv
      generalize wr.heap.size = bv at *
      skip
      go_region_with (first | (go_at_call 108; refine (figureLog_c vd vt (by omega) (by omega) (by omega) (by omega) _).mono ?_; rintro e wa ⟨rfl, hba⟩; obtain ⟨hca, hfa, hza⟩ := bel hba; (try simp only [World.size_drew, World.cell?_drew, World.frozen?_drew, World.heap_drewN, World.cell?_drewN, World.frozen?_drewN] at hca hfa hza); have yyaO : O < wa.heap.size := hza _ (by assumption); have yyabv : bv < wa.heap.size := hza _ (by assumption); have yyabz : bz < wa.heap.size := hza _ (by assumption); have yyaw : w.heap.size < wa.heap.size := hza _ (by assumption); have xxa0 : wa.cell? ⟨O, 0, none⟩ = some (.int .i64 T1) := (hca _ _ (by assumption)).trans (by assumption); have xxa1 : wa.cell? ⟨O, 1, none⟩ = some (.int .i64 T2) := (hca _ _ (by assumption)).trans (by assumption); have xxa2 : wa.cell? ⟨w.heap.size, 3, none⟩ = some (.slice (some ⟨bz, oz, none⟩) C.zs.length c) := (hca _ _ (by assumption)).trans (by assumption); have xxa3 : wa.cell? ⟨bz, oz + k, none⟩ = some (.int .i64 z) := (hca _ _ (by assumption)).trans (by assumption); have xxa4 : wa.cell? ⟨bv, 0, none⟩ = some (.int .i64 vd) := (hca _ _ (by assumption)).trans (by assumption); have xxa5 : wa.cell? ⟨bv, 1, none⟩ = some (.int .i64 vt) := (hca _ _ (by assumption)).trans (by assumption); have xfa0 : wa.frozen? ⟨O, 0, none⟩ = false := (hfa _ _ (by assumption)).trans (by assumption); have xfa1 : wa.frozen? ⟨O, 1, none⟩ = false := (hfa _ _ (by assumption)).trans (by assumption); clear hca hfa hza) | (go_at_call 110; refine (scaled_c _ _ _ (by omega) (by omega) (by omega) (by omega) (by omega) (by omega) _).mono ?_; rintro e wb ⟨rfl, hbb⟩; obtain ⟨hcb, hfb, hzb⟩ := bel hbb; (try simp only [World.size_drew, World.cell?_drew, World.frozen?_drew, World.heap_drewN, World.cell?_drewN, World.frozen?_drewN] at hcb hfb hzb); have yybO : O < wb.heap.size := hzb _ (by assumption); have yybbv : bv < wb.heap.size := hzb _ (by assumption); have yybbz : bz < wb.heap.size := hzb _ (by assumption); have yybw : w.heap.size < wb.heap.size := hzb _ (by assumption); have xxb0 : wb.cell? ⟨O, 0, none⟩ = some (.int .i64 T1) := (hcb _ _ (by assumption)).trans (by assumption); have xxb1 : wb.cell? ⟨O, 1, none⟩ = some (.int .i64 T2) := (hcb _ _ (by assumption)).trans (by assumption); have xxb2 : wb.cell? ⟨w.heap.size, 3, none⟩ = some (.slice (some ⟨bz, oz, none⟩) C.zs.length c) := (hcb _ _ (by assumption)).trans (by assumption); have xxb3 : wb.cell? ⟨bz, oz + k, none⟩ = some (.int .i64 z) := (hcb _ _ (by assumption)).trans (by assumption); have xxb4 : wb.cell? ⟨bv, 0, none⟩ = some (.int .i64 vd) := (hcb _ _ (by assumption)).trans (by assumption); have xxb5 : wb.cell? ⟨bv, 1, none⟩ = some (.int .i64 vt) := (hcb _ _ (by assumption)).trans (by assumption); have xfb0 : wb.frozen? ⟨O, 0, none⟩ = false := (hfb _ _ (by assumption)).trans (by assumption); have xfb1 : wb.frozen? ⟨O, 1, none⟩ = false := (hfb _ _ (by assumption)).trans (by assumption); clear hcb hfb hzb) | (go_at_call 109; refine (sum_c _ _ _ _ (by omega) (by omega) (by omega) (by omega) (by omega) (by omega) (by omega) (by omega) _).mono ?_; rintro e wx ⟨rfl, hbx⟩; obtain ⟨hcx, hfx, hzx⟩ := bel hbx; (try simp only [World.size_drew, World.cell?_drew, World.frozen?_drew, World.heap_drewN, World.cell?_drewN, World.frozen?_drewN] at hcx hfx hzx); have yyxO : O < wx.heap.size := hzx _ (by assumption); have yyxbv : bv < wx.heap.size := hzx _ (by assumption); have yyxbz : bz < wx.heap.size := hzx _ (by assumption); have yyxw : w.heap.size < wx.heap.size := hzx _ (by assumption); have xxx0 : wx.cell? ⟨O, 0, none⟩ = some (.int .i64 T1) := (hcx _ _ (by assumption)).trans (by assumption); have xxx1 : wx.cell? ⟨O, 1, none⟩ = some (.int .i64 T2) := (hcx _ _ (by assumption)).trans (by assumption); have xxx2 : wx.cell? ⟨w.heap.size, 3, none⟩ = some (.slice (some ⟨bz, oz, none⟩) C.zs.length c) := (hcx _ _ (by assumption)).trans (by assumption); have xxx3 : wx.cell? ⟨bz, oz + k, none⟩ = some (.int .i64 z) := (hcx _ _ (by assumption)).trans (by assumption); have xxx4 : wx.cell? ⟨bv, 0, none⟩ = some (.int .i64 vd) := (hcx _ _ (by assumption)).trans (by assumption); have xxx5 : wx.cell? ⟨bv, 1, none⟩ = some (.int .i64 vt) := (hcx _ _ (by assumption)).trans (by assumption); have xfx0 : wx.frozen? ⟨O, 0, none⟩ = false := (hfx _ _ (by assumption)).trans (by assumption); have xfx1 : wx.frozen? ⟨O, 1, none⟩ = false := (hfx _ _ (by assumption)).trans (by assumption); clear hcx hfx hzx))
      all_goals
        have hB : Blk wx O 92 #[.int .i64 T1, .int .i64 T2] := (by repeat (with_reducible first | exact HO.out | assumption | refine Blk.alloc _ ?_ | refine Blk.step (by assumption) ?_ | refine Blk.drew ?_ | refine Blk.drewN _ ?_))
        have hF : Blk wx w.heap.size 28 #[.int .i64 C.dg, .int .i64 C.tn, .string C.nm, .slice (some ⟨bz, oz, none⟩) C.zs.length c] := (by repeat (with_reducible first | exact HF.out | assumption | refine Blk.alloc _ ?_ | refine Blk.step (by assumption) ?_ | refine Blk.drew ?_ | refine Blk.drewN _ ?_))
        have hR : Blk wx (w.heap.size + 1) 92 #[.int .i64 0, .int .i64 0] := (by repeat (with_reducible first | exact HR.out | assumption | refine Blk.alloc _ ?_ | refine Blk.step (by assumption) ?_ | refine Blk.drew ?_ | refine Blk.drewN _ ?_))
        have hbelx : Below w.heap.size w wx := by repeat (with_reducible first | exact Below.refl _ _ | assumption | refine Bel.alloc ?_ _ | refine Bel.step (by assumption) ?_ | refine Below.drew ?_ | refine Bel.drewN ?_ _ | refine Below.setCell ?_ (by first | exact Nat.le_refl _ | omega | (simp; done) | (simp; omega)) _)
        have hB2 := (hB.set_ 0 (.int .i64 (T1 + mn (fgLo vd vt * z) (fgHi vd vt * z)))).set_ 1 (.int .i64 (T2 + mx (fgLo vd vt * z) (fgHi vd vt * z)))
        have hF2 := Blk.far (p := ⟨O, 1, none⟩) (.int .i64 (T2 + mx (fgLo vd vt * z) (fgHi vd vt * z))) nO (Blk.far (p := ⟨O, 0, none⟩) (.int .i64 (T1 + mn (fgLo vd vt * z) (fgHi vd vt * z))) nO hF)
        have hR2 := Blk.far (p := ⟨O, 1, none⟩) (.int .i64 (T2 + mx (fgLo vd vt * z) (fgHi vd vt * z))) nO1 (Blk.far (p := ⟨O, 0, none⟩) (.int .i64 (T1 + mn (fgLo vd vt * z) (fgHi vd vt * z))) nO1 hR)
        have HX := Lib.hid (And.intro hB2 (And.intro hF2 hR2))
        clear hB hF hR hB2 hF2 hR2
        go_wp2
        go_roundw
        case rel => exact ⟨k + 1, by omega, by go_num, by rw [HS.out]; exact Lib.hid HX.out.1, Lib.hid HX.out.2.1, Lib.hid HX.out.2.2, by repeat (with_reducible first | exact Below.refl _ _ | assumption | refine Bel.alloc ?_ _ | refine Bel.step (by assumption) ?_ | refine Below.drew ?_ | refine Bel.drewN ?_ _ | refine Below.setCell ?_ (by first | exact Nat.le_refl _ | omega | (simp; done) | (simp; omega)) _)⟩
        case measure => simp [intOf]; omega
    · obtain rfl : k = ps.length := by omega
      have r0 : wr.cell? ⟨w.heap.size + 1, 0, none⟩ = some (.int .i64 0) := by rw [HR.out.cell]; rfl
      have r1 : wr.cell? ⟨w.heap.size + 1, 1, none⟩ = some (.int .i64 0) := by rw [HR.out.cell]; rfl
      have rf0 := HR.out.frozen 0
      have rf1 := HR.out.frozen 1
      go_wp2
      refine bodyPost_ret (v := .agg #[.int .i64 (fmT C ps ps.length).1, .int .i64 (fmT C ps ps.length).2]) (by simp [results, Tryz.results61, go_sem, *]) rfl ⟨rfl, by repeat (with_reducible first | exact Below.refl _ _ | assumption | refine Bel.alloc ?_ _ | refine Bel.step (by assumption) ?_ | refine Below.drew ?_ | refine Bel.drewN ?_ _ | refine Below.setCell ?_ (by first | exact Nat.le_refl _ | omega | (simp; done) | (simp; omega)) _)⟩
end Go.Proofs.YtpmcgicopogbhaaGreat
