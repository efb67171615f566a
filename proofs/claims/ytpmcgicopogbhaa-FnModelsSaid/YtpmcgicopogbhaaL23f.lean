/- Chapter 23: places on the scales of a chart, with the codes. Conditions: as stated at each contract. -/
import Derived.Test.YtpmcgicopogbhaaProg
import Derived.Test.YtpmcgicopogbhaaBase
import Derived.Test.YtpmcgicopogbhaaL01
import Derived.Test.YtpmcgicopogbhaaCp
import Derived.Test.YtpmcgicopogbhaaL18
import Derived.Test.YtpmcgicopogbhaaL23
import Derived.Test.YtpmcgicopogbhaaL03
import Derived.Test.YtpmcgicopogbhaaL23d
import Derived.Test.YtpmcgicopogbhaaL23e
import Derived.WalkKit
import Derived.WalkSpells
import Derived.WalkLawsBesides
import Derived.Lib.Hide
import Derived.Deep.QuietTactic
import Derived.BigQuiet
import Derived.Deep.Draws
import Derived.Deep.RegionHeld3
namespace Go.Proofs.Ytpmcgicopogbhaa
open Go.RowKit
set_option linter.unusedVariables false
theorem chartPlace_c (C : Ch) (A : Option Addr) (c : Nat) (sc dg tn : Int) (h : okCh C = true) (hf : okF dg tn = true) (hs : inB sc 0 2 = true) (w : World) (hA : Ints w A C.zs) :
    Calls Try.prog 88 #[.agg #[.int .i64 C.dg, .int .i64 C.tn, .string C.nm, .slice A C.zs.length c, .int .i64 C.wd, .int .i64 C.lf, .int .i64 C.rt], .int .i64 sc, .agg #[.int .i64 dg, .int .i64 tn]] w fun r w' => r = .returned (.tuple #[.agg #[.int .i64 (plL C sc dg tn), .int .i64 (plH C sc dg tn)], .int .i64 (plC C sc dg tn)]) ∧ Below w.heap.size w w' := by
  rcases sc_cases hs with rfl | rfl | rfl
  · exact chartPlace_0 C A c dg tn h hf w hA
  · exact chartPlace_1 C A c dg tn h hf w hA
  · exact chartPlace_2 C A c dg tn h hf w hA
theorem ChartPlace_I (C : Ch) (A : Option Addr) (c : Nat) (sc dg tn : Int) (hn : C.zs.length ≤ 1048576) (hm : C.nm.size ≤ 1048576) (w : World) (hA : Ints w A C.zs) :
    Calls Try.prog 21 #[.agg #[.int .i64 C.dg, .int .i64 C.tn, .string C.nm, .slice A C.zs.length c, .int .i64 C.wd, .int .i64 C.lf, .int .i64 C.rt], .int .i64 sc, .agg #[.int .i64 dg, .int .i64 tn]] w fun r w' => r = .returned (.tuple #[.agg #[.int .i64 (cqL C sc dg tn), .int .i64 (cqH C sc dg tn)], .int .i64 (cqC C sc dg tn)]) ∧ Below w.heap.size w w' := by
  have hP := Prs.mk1 (((w.alloc (.cells #[.int .i64 C.dg, .int .i64 C.tn, .string C.nm, .slice A C.zs.length c, .int .i64 C.wd, .int .i64 C.lf, .int .i64 C.rt] 30)).alloc (.cells #[.int .i64 dg, .int .i64 tn] 25)).alloc (.cells #[.int .i64 0, .int .i64 0] 39)) 25 dg tn
  simp only [World.size_alloc] at hP
  by_cases hk : ckC C sc (okF dg tn) = 0
  · have HQ := Lib.hid (cq_pl hk)
    obtain ⟨h, hf, hs⟩ := ckC_0 hk
    have HK := Lib.hid hk
    clear hk
    go_enter Try.func21, Try.ntmps21
    go_wp2_with fail
    go_at_call 84; refine (checkChart_c C A c sc _ 1 [(dg, tn)] hn hm (by simp) _ (Ints.alloc _ (Ints.alloc _ (Ints.alloc _ (Ints.alloc _ hA)))) hP).mono ?_; rintro e w1 ⟨rfl, hb1⟩; obtain ⟨hc1, hf1, hz1⟩ := bel hb1; (try simp only [World.size_drew, World.cell?_drew, World.frozen?_drew] at hc1 hf1 hz1); (try simp only [World.heap_drewN, World.cell?_drewN, World.frozen?_drewN] at hc1 hf1 hz1); (try have hl1 : w.heap.size < w1.heap.size := by (have hq := hb1.size; (try simp at hq); omega)); (try have hm1 : w.heap.size + 1 < w1.heap.size := by (have hq := hb1.size; (try simp at hq); omega)); (try have hn1 : w.heap.size + 1 + 1 < w1.heap.size := by (have hq := hb1.size; (try simp at hq); omega)); (try have hp1 : b < w1.heap.size := by (have hq := hb1.size; (try simp at hq); omega)); (try have ho1 : b' < w1.heap.size := by (have hq := hb1.size; (try simp at hq); omega))
    rw [okFs_one, HK.out]
    go_wp2_with fail
    go_at_call 88; refine (chartPlace_c C A c sc dg tn h hf hs _ (Ints.step hb1 (Ints.alloc _ (Ints.alloc _ (Ints.alloc _ (Ints.alloc _ hA)))))).mono ?_; rintro e w2 ⟨rfl, hb2⟩; obtain ⟨hc2, hf2, hz2⟩ := bel hb2; (try simp only [World.size_drew, World.cell?_drew, World.frozen?_drew] at hc2 hf2 hz2); (try simp only [World.heap_drewN, World.cell?_drewN, World.frozen?_drewN] at hc2 hf2 hz2); (try have hl2 : w.heap.size < w2.heap.size := by (have hq := hb2.size; (try simp at hq); omega)); (try have hm2 : w.heap.size + 1 < w2.heap.size := by (have hq := hb2.size; (try simp at hq); omega)); (try have hn2 : w.heap.size + 1 + 1 < w2.heap.size := by (have hq := hb2.size; (try simp at hq); omega)); (try have hp2 : b < w2.heap.size := by (have hq := hb2.size; (try simp at hq); omega)); (try have ho2 : b' < w2.heap.size := by (have hq := hb2.size; (try simp at hq); omega))
    go_wp2
    refine bodyPost_ret (v := .tuple #[.agg #[.int .i64 (plL C sc dg tn), .int .i64 (plH C sc dg tn)], .int .i64 (plC C sc dg tn)]) (by simp [results, Try.results21, go_sem, *]) rfl ⟨by rw [HQ.out.1, HQ.out.2.1, HQ.out.2.2], by repeat (with_reducible first | exact Below.refl _ _ | assumption | refine Bel.alloc ?_ _ | refine Bel.step (by assumption) ?_ | refine Below.drew ?_ | refine Bel.drewN ?_ _ | refine Below.setCell ?_ (by first | exact Nat.le_refl _ | omega | (simp; done) | (simp; omega)) _)⟩
  · have HQ := Lib.hid (cq_no hk)
    have b1 : (ckC C sc (okF dg tn) != 0) = true := by simpa using hk
    clear hk
    go_enter Try.func21, Try.ntmps21
    go_wp2_with fail
    go_at_call 84; refine (checkChart_c C A c sc _ 1 [(dg, tn)] hn hm (by simp) _ (Ints.alloc _ (Ints.alloc _ (Ints.alloc _ (Ints.alloc _ hA)))) hP).mono ?_; rintro e w1 ⟨rfl, hb1⟩; obtain ⟨hc1, hf1, hz1⟩ := bel hb1; (try simp only [World.size_drew, World.cell?_drew, World.frozen?_drew] at hc1 hf1 hz1); (try simp only [World.heap_drewN, World.cell?_drewN, World.frozen?_drewN] at hc1 hf1 hz1); (try have hl1 : w.heap.size < w1.heap.size := by (have hq := hb1.size; (try simp at hq); omega)); (try have hm1 : w.heap.size + 1 < w1.heap.size := by (have hq := hb1.size; (try simp at hq); omega)); (try have hn1 : w.heap.size + 1 + 1 < w1.heap.size := by (have hq := hb1.size; (try simp at hq); omega)); (try have hp1 : b < w1.heap.size := by (have hq := hb1.size; (try simp at hq); omega)); (try have ho1 : b' < w1.heap.size := by (have hq := hb1.size; (try simp at hq); omega))
    rw [okFs_one]
    go_wp2
    refine bodyPost_ret (v := .tuple #[.agg #[.int .i64 0, .int .i64 0], .int .i64 (ckC C sc (okF dg tn))]) (by simp [results, Try.results21, go_sem, *]) rfl ⟨by rw [HQ.out.1, HQ.out.2.1, HQ.out.2.2], by repeat (with_reducible first | exact Below.refl _ _ | assumption | refine Bel.alloc ?_ _ | refine Bel.step (by assumption) ?_ | refine Below.drew ?_ | refine Bel.drewN ?_ _ | refine Below.setCell ?_ (by first | exact Nat.le_refl _ | omega | (simp; done) | (simp; omega)) _)⟩
end Go.Proofs.Ytpmcgicopogbhaa
