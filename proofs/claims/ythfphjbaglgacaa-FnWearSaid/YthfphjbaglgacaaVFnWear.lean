/- The statement FnWear, walked. No conditions. -/
import Derived.Test.YthfphjbaglgacaaProg
import Derived.Test.YthfphjbaglgacaaBase
import Derived.Test.YthfphjbaglgacaaRw
import Derived.Test.YthfphjbaglgacaaRg
import Derived.Test.YthfphjbaglgacaaL01
import Derived.Test.YthfphjbaglgacaaCp
import Derived.Test.YthfphjbaglgacaaL28
import Derived.Test.YthfphjbaglgacaaL28b
import Derived.Test.YthfphjbaglgacaaP28
import Derived.Test.YthfphjbaglgacaaE24
import Derived.Test.YthfphjbaglgacaaE23
import Derived.Test.YthfphjbaglgacaaD00
import Derived.Test.YthfphjbaglgacaaD01
import Derived.Test.YthfphjbaglgacaaD28
import Derived.Test.YthfphjbaglgacaaDc
import Derived.WalkKit
import Derived.WalkSpells
import Derived.WalkLawsBesides
import Derived.Lib.Hide
import Derived.Deep.QuietTactic
import Derived.BigQuiet
import Derived.Deep.Draws
import Derived.Deep.RegionHeld3
import Derived.Deep.Cut
namespace Go.Proofs.Ythfphjbaglgacaa
open Go.RowKit
set_option linter.unusedVariables false
set_option linter.unusedSimpArgs false
set_option maxRecDepth 50000 in
set_option maxHeartbeats 16000000 in
theorem FnWear_w (w : World) (A : Option Addr) (c : Nat) (zs : List Int) (hl : zs.length ≤ 9223372036854775807) (hA : Byts w A zs) :
    Calls Try.prog 3 #[.slice A zs.length c] w fun e w' => e = .returned (.bool true) ∧ Below w.heap.size w w' := by
  have HB := Lib.hid (Below.refl w.heap.size w)
  by_cases hz : zs.length ≤ 4096
  rotate_left
  · go_enter Try.func3, Try.ntmps3
    go_wp2_with fail
    go_at_call 9; refine (big_yes A c zs.length (by omega) _).mono ?_; rintro e w' ⟨rfl, rfl⟩
    go_wp2
    go_ret
    exact ⟨rfl, HB.out⟩
  have HA := Lib.hid hA
  clear hA hl
  go_enter Try.func3, Try.ntmps3
  go_wp2_with fail
  go_at_call 9; refine (big_no A c zs.length hz _).mono ?_; rintro e w' ⟨rfl, rfl⟩
  go_wp2_with fail
  go_at_call 10; refine (DrawBestShift_c A c zs hz _ HA.out).mono ?_; rintro e w1 ⟨ts, g, q, st, rfl, hn, hO, hb1⟩; have hka := Bel.ka HB.out hb1 (by repeat (with_reducible first | exact Below.refl _ _ | refine Bel.alloc ?_ _ | refine Below.drew ?_ | refine Bel.drewN ?_ _)); (try (replace HA := Lib.hid (Byts.step hb1 (Byts.step hka HA.out)))); replace HB := Lib.hid (Bel.step hb1 (Bel.step hka HB.out)); have hsz1 := hb1.size; have hsy1 := hka.size; (try simp only [World.size_alloc, World.size_drew, World.heap_drewN, World.size_setCell] at hsz1 hsy1); clear hka hb1
  have HL := Lib.hid hO.prs
  clear hO
  go_wp2_with fail
  go_at_call 11; refine (BestShift_I st (some ⟨g, 0, none⟩) q ts (by omega) _ (by repeat (with_reducible first | exact HL.out | assumption | refine Prs.drew ?_ | refine Prs.drewN _ ?_ | refine Prs.alloc _ ?_ | refine Prs.step (by assumption) ?_))).mono ?_; rintro e w2 ⟨rfl, hb2⟩; have hka := Bel.ka HB.out hb2 (by repeat (with_reducible first | exact Below.refl _ _ | refine Bel.alloc ?_ _ | refine Below.drew ?_ | refine Bel.drewN ?_ _)); (try (replace HL := Lib.hid (Prs.step hb2 (Prs.step hka HL.out)))); (try (replace HA := Lib.hid (Byts.step hb2 (Byts.step hka HA.out)))); replace HB := Lib.hid (Bel.step hb2 (Bel.step hka HB.out)); have hsz2 := hb2.size; have hsy2 := hka.size; (try simp only [World.size_alloc, World.size_drew, World.heap_drewN, World.size_setCell] at hsz2 hsy2); clear hka hb2
  have hbest := fun h => shift_best (z := st) (zs := ts) h
  obtain ⟨k, hk⟩ : ∃ k, k = bShC st ts := ⟨_, rfl⟩
  obtain ⟨s, hs⟩ : ∃ k, k = bShV st ts := ⟨_, rfl⟩
  obtain ⟨n, hn'⟩ : ∃ k, k = bShF st ts := ⟨_, rfl⟩
  rw [← hk, ← hs, ← hn'] at hbest ⊢
  have HK := Lib.hid (And.intro hk (And.intro hs hn'))
  have HBest := Lib.hid hbest
  clear hk hs hn' hbest
  go_wp2_with fail
  go_at_call 12; refine (BestShift_S st (some ⟨g, 0, none⟩) q ts (by omega) _ (by repeat (with_reducible first | exact HL.out | assumption | refine Prs.drew ?_ | refine Prs.drewN _ ?_ | refine Prs.alloc _ ?_ | refine Prs.step (by assumption) ?_))).mono ?_; rintro e w3 ⟨rfl, hb3⟩; have hka := Bel.ka HB.out hb3 (by repeat (with_reducible first | exact Below.refl _ _ | refine Bel.alloc ?_ _ | refine Below.drew ?_ | refine Bel.drewN ?_ _)); (try (replace HL := Lib.hid (Prs.step hb3 (Prs.step hka HL.out)))); (try (replace HA := Lib.hid (Byts.step hb3 (Byts.step hka HA.out)))); replace HB := Lib.hid (Bel.step hb3 (Bel.step hka HB.out)); have hsz3 := hb3.size; have hsy3 := hka.size; (try simp only [World.size_alloc, World.size_drew, World.heap_drewN, World.size_setCell] at hsz3 hsy3); clear hka hb3
  rw [← HK.out.1, ← HK.out.2.1, ← HK.out.2.2]
  clear HK
  go_wp2_with fail
  go_at_call 13; refine (DrawSeenAt_c A c zs hz _ HA.out).mono ?_; rintro e w4 ⟨px, py, pl, rfl, hb4⟩; have hka := Bel.ka HB.out hb4 (by repeat (with_reducible first | exact Below.refl _ _ | refine Bel.alloc ?_ _ | refine Below.drew ?_ | refine Bel.drewN ?_ _)); (try (replace HL := Lib.hid (Prs.step hb4 (Prs.step hka HL.out)))); (try (replace HA := Lib.hid (Byts.step hb4 (Byts.step hka HA.out)))); replace HB := Lib.hid (Bel.step hb4 (Bel.step hka HB.out)); have hsz4 := hb4.size; have hsy4 := hka.size; (try simp only [World.size_alloc, World.size_drew, World.heap_drewN, World.size_setCell] at hsz4 hsy4); clear hka hb4
  have HM := Lib.hid (by have h := Blk.new w4 30 #[.int .i64 px, .int .i64 py]; (try simp only [World.size_alloc] at h); exact h)
  replace HL := Lib.hid (Prs.alloc (.cells #[.int .i64 px, .int .i64 py] 30) HL.out)
  replace HA := Lib.hid (Byts.alloc (.cells #[.int .i64 px, .int .i64 py] 30) HA.out)
  replace HB := Lib.hid (Bel.alloc HB.out (.cells #[.int .i64 px, .int .i64 py] 30))
  go_wp2_with (first | (refine wpList_load_blkG 30 _ _ (Blk.step (Bel.ka0 HB.out (by repeat (with_reducible first | exact Below.refl _ _ | refine Bel.alloc ?_ _ | refine Below.drew ?_ | refine Bel.drewN ?_ _))) HM.out) Try.underlying30 (by kernel_rfl) rfl rfl (by rfl) ?_))
  go_at_call 14; refine (SeenAt_I px py pl _).mono ?_; rintro e w5 ⟨rfl, hb5⟩; have hka := Bel.ka HB.out hb5 (by repeat (with_reducible first | exact Below.refl _ _ | refine Bel.alloc ?_ _ | refine Below.drew ?_ | refine Bel.drewN ?_ _)); (try (replace HM := Lib.hid (Blk.step hb5 (Blk.step hka HM.out)))); (try (replace HL := Lib.hid (Prs.step hb5 (Prs.step hka HL.out)))); (try (replace HA := Lib.hid (Byts.step hb5 (Byts.step hka HA.out)))); replace HB := Lib.hid (Bel.step hb5 (Bel.step hka HB.out)); have hsz5 := hb5.size; have hsy5 := hka.size; (try simp only [World.size_alloc, World.size_drew, World.heap_drewN, World.size_setCell] at hsz5 hsy5); clear hka hb5
  have hnext := fun h h2 => seen_next (s := px) (z := py) (t := pl) h h2
  obtain ⟨ke, hke⟩ : ∃ k, k = seenAtE px py pl := ⟨_, rfl⟩
  obtain ⟨xv, hxv⟩ : ∃ k, k = seenAtV px py pl := ⟨_, rfl⟩
  rw [← hke, ← hxv] at hnext ⊢
  have HE := Lib.hid (And.intro hke hxv)
  have HNext := Lib.hid hnext
  clear hke hxv hnext
  go_wp2_with (first | (refine wpList_load_blkG 30 _ _ (Blk.step (Bel.ka0 HB.out (by repeat (with_reducible first | exact Below.refl _ _ | refine Bel.alloc ?_ _ | refine Below.drew ?_ | refine Bel.drewN ?_ _))) HM.out) Try.underlying30 (by kernel_rfl) rfl rfl (by rfl) ?_))
  go_at_call 15; refine (SeenAt_S px py pl _).mono ?_; rintro e w6 ⟨rfl, hb6⟩; have hka := Bel.ka HB.out hb6 (by repeat (with_reducible first | exact Below.refl _ _ | refine Bel.alloc ?_ _ | refine Below.drew ?_ | refine Bel.drewN ?_ _)); (try (replace HM := Lib.hid (Blk.step hb6 (Blk.step hka HM.out)))); (try (replace HL := Lib.hid (Prs.step hb6 (Prs.step hka HL.out)))); (try (replace HA := Lib.hid (Byts.step hb6 (Byts.step hka HA.out)))); replace HB := Lib.hid (Bel.step hb6 (Bel.step hka HB.out)); have hsz6 := hb6.size; have hsy6 := hka.size; (try simp only [World.size_alloc, World.size_drew, World.heap_drewN, World.size_setCell] at hsz6 hsy6); clear hka hb6
  rw [← HE.out.1, ← HE.out.2]
  go_wp2_with fail
  go_at_call 16; refine (DrawFitOf_c A c zs hz _ HA.out).mono ?_; rintro e w7 ⟨ax, ay, ls, gl, ql, rfl, hln, hO, hb7⟩; have hka := Bel.ka HB.out hb7 (by repeat (with_reducible first | exact Below.refl _ _ | refine Bel.alloc ?_ _ | refine Below.drew ?_ | refine Bel.drewN ?_ _)); (try (replace HM := Lib.hid (Blk.step hb7 (Blk.step hka HM.out)))); (try (replace HL := Lib.hid (Prs.step hb7 (Prs.step hka HL.out)))); (try (replace HA := Lib.hid (Byts.step hb7 (Byts.step hka HA.out)))); replace HB := Lib.hid (Bel.step hb7 (Bel.step hka HB.out)); have hsz7 := hb7.size; have hsy7 := hka.size; (try simp only [World.size_alloc, World.size_drew, World.heap_drewN, World.size_setCell] at hsz7 hsy7); clear hka hb7
  have HL2 := Lib.hid hO.prs
  clear hO
  have HN := Lib.hid (by have h := Blk.new w7 30 #[.int .i64 ax, .int .i64 ay]; (try simp only [World.size_alloc] at h); exact h)
  replace HM := Lib.hid (Blk.alloc (.cells #[.int .i64 ax, .int .i64 ay] 30) HM.out)
  replace HL := Lib.hid (Prs.alloc (.cells #[.int .i64 ax, .int .i64 ay] 30) HL.out)
  replace HL2 := Lib.hid (Prs.alloc (.cells #[.int .i64 ax, .int .i64 ay] 30) HL2.out)
  replace HA := Lib.hid (Byts.alloc (.cells #[.int .i64 ax, .int .i64 ay] 30) HA.out)
  replace HB := Lib.hid (Bel.alloc HB.out (.cells #[.int .i64 ax, .int .i64 ay] 30))
  go_wp2_with (first | (refine wpList_load_blkG 30 _ _ (Blk.step (Bel.ka0 HB.out (by repeat (with_reducible first | exact Below.refl _ _ | refine Bel.alloc ?_ _ | refine Below.drew ?_ | refine Bel.drewN ?_ _))) HN.out) Try.underlying30 (by kernel_rfl) rfl rfl (by rfl) ?_))
  go_at_call 17; refine (FitOf_I ax ay (some ⟨gl, 0, none⟩) ql ls (by omega) _ (by repeat (with_reducible first | exact HL2.out | assumption | refine Prs.drew ?_ | refine Prs.drewN _ ?_ | refine Prs.alloc _ ?_ | refine Prs.step (by assumption) ?_))).mono ?_; rintro e w8 ⟨rfl, hb8⟩; have hka := Bel.ka HB.out hb8 (by repeat (with_reducible first | exact Below.refl _ _ | refine Bel.alloc ?_ _ | refine Below.drew ?_ | refine Bel.drewN ?_ _)); (try (replace HM := Lib.hid (Blk.step hb8 (Blk.step hka HM.out)))); (try (replace HN := Lib.hid (Blk.step hb8 (Blk.step hka HN.out)))); (try (replace HL := Lib.hid (Prs.step hb8 (Prs.step hka HL.out)))); (try (replace HL2 := Lib.hid (Prs.step hb8 (Prs.step hka HL2.out)))); (try (replace HA := Lib.hid (Byts.step hb8 (Byts.step hka HA.out)))); replace HB := Lib.hid (Bel.step hb8 (Bel.step hka HB.out)); have hsz8 := hb8.size; have hsy8 := hka.size; (try simp only [World.size_alloc, World.size_drew, World.heap_drewN, World.size_setCell] at hsz8 hsy8); clear hka hb8
  obtain ⟨kf, hkf⟩ : ∃ k, k = fitOfE ax ay ls := ⟨_, rfl⟩
  obtain ⟨fv, hfv⟩ : ∃ k, k = fitOfV ax ay ls := ⟨_, rfl⟩
  rw [← hkf, ← hfv]
  have HF := Lib.hid (And.intro hkf hfv)
  clear hkf hfv
  go_wp2_with (first | (refine wpList_load_blkG 30 _ _ (Blk.step (Bel.ka0 HB.out (by repeat (with_reducible first | exact Below.refl _ _ | refine Bel.alloc ?_ _ | refine Below.drew ?_ | refine Bel.drewN ?_ _))) HN.out) Try.underlying30 (by kernel_rfl) rfl rfl (by rfl) ?_))
  go_at_call 18; refine (FitOf_S ax ay (some ⟨gl, 0, none⟩) ql ls (by omega) _ (by repeat (with_reducible first | exact HL2.out | assumption | refine Prs.drew ?_ | refine Prs.drewN _ ?_ | refine Prs.alloc _ ?_ | refine Prs.step (by assumption) ?_))).mono ?_; rintro e w9 ⟨rfl, hb9⟩; have hka := Bel.ka HB.out hb9 (by repeat (with_reducible first | exact Below.refl _ _ | refine Bel.alloc ?_ _ | refine Below.drew ?_ | refine Bel.drewN ?_ _)); (try (replace HM := Lib.hid (Blk.step hb9 (Blk.step hka HM.out)))); (try (replace HL := Lib.hid (Prs.step hb9 (Prs.step hka HL.out)))); (try (replace HA := Lib.hid (Byts.step hb9 (Byts.step hka HA.out)))); replace HB := Lib.hid (Bel.step hb9 (Bel.step hka HB.out)); have hsz9 := hb9.size; have hsy9 := hka.size; (try simp only [World.size_alloc, World.size_drew, World.heap_drewN, World.size_setCell] at hsz9 hsy9); clear hka hb9
  rw [← HF.out.1, ← HF.out.2]
  clear HF HN HL2
  have hbl := HM.out.lt
  have m0 : w9.cell? ⟨w4.heap.size, 0, none⟩ = some (.int .i64 px) := by rw [HM.out.cell]; rfl
  have m1 : w9.cell? ⟨w4.heap.size, 1, none⟩ = some (.int .i64 py) := by rw [HM.out.cell]; rfl
  clear hsz1 hsy1 hsz2 hsy2 hsz3 hsy3 hsz4 hsy4 hsz5 hsy5 hsz6 hsy6 hsz7 hsy7 hsz8 hsy8 hsz9 hsy9
  go_upto_region 12 with (fail)
  go_region_held3 (fun w' => w'.cell? ⟨w4.heap.size, 0, none⟩ = some (.int .i64 px) ∧ w'.cell? ⟨w4.heap.size, 1, none⟩ = some (.int .i64 py)) (simp [go_sem, *])
      (first | (go_at_call 19; refine (isModel_I _ _ _).mono ?_; rintro e wa ⟨rfl, hba⟩; obtain ⟨hca, hfa, hza⟩ := bel hba; (try simp only [World.size_drew, World.cell?_drew, World.frozen?_drew] at hca hfa hza); (try simp only [World.heap_drewN, World.cell?_drewN, World.frozen?_drewN] at hca hfa hza); (try have hla : w.heap.size < wa.heap.size := by (have hq := hba.size; (try simp at hq); omega)); (try have hma : w.heap.size + 1 < wa.heap.size := by (have hq := hba.size; (try simp at hq); omega)); (try have hna : w.heap.size + 1 + 1 < wa.heap.size := by (have hq := hba.size; (try simp at hq); omega)); (try have hpa : b < wa.heap.size := by (have hq := hba.size; (try simp at hq); omega)); (try have hoa : b' < wa.heap.size := by (have hq := hba.size; (try simp at hq); omega))) | (go_at_call 20; refine (isModel_S _ _ _).mono ?_; rintro e wb ⟨rfl, hbb⟩; obtain ⟨hcb, hfb, hzb⟩ := bel hbb; (try simp only [World.size_drew, World.cell?_drew, World.frozen?_drew] at hcb hfb hzb); (try simp only [World.heap_drewN, World.cell?_drewN, World.frozen?_drewN] at hcb hfb hzb); (try have hlb : w.heap.size < wb.heap.size := by (have hq := hbb.size; (try simp at hq); omega)); (try have hmb : w.heap.size + 1 < wb.heap.size := by (have hq := hbb.size; (try simp at hq); omega)); (try have hnb : w.heap.size + 1 + 1 < wb.heap.size := by (have hq := hbb.size; (try simp at hq); omega)); (try have hpb : b < wb.heap.size := by (have hq := hbb.size; (try simp at hq); omega)); (try have hob : b' < wb.heap.size := by (have hq := hbb.size; (try simp at hq); omega))))
  have hk : Below w9.drew.heap.size w9.drew wb := Bel.step hbb hba
  replace HM := Lib.hid (Blk.step hk HM.out.drew)
  replace HL := Lib.hid (Prs.step hk (Prs.drew HL.out))
  replace HA := Lib.hid (Byts.step hk (show Byts w9.drew A zs from ⟨HA.out.rng, HA.out.cells⟩))
  replace HB := Lib.hid (Bel.step hk (Below.drew HB.out))
  clear hk hbb hba hca hfa hza hcb hfb hzb hbl m0 m1
  by_cases hke : ke = 0
  rotate_left
  · have hkeb : (ke == 0) = false := by simpa using hke
    go_upto_region 18 with (fail)
    obtain ⟨W, rfl⟩ : ∃ W : World, W = wb := ⟨_, rfl⟩
    by_cases hk0 : k = 0
    rotate_left
    · have hkb : (k == 0) = false := by simpa using hk0
      go_wp2
      all_goals (go_ret; exact ⟨rfl, HB.out⟩)
    obtain ⟨h1, h2, h3⟩ := HBest.out hk0
    have H3 := Lib.hid h3
    clear h3 HNext HE
    subst hk0
    go_wp2_with fail
    go_at_call 17; refine (FitOf_I s st (some ⟨g, 0, none⟩) q ts (by omega) _ (by repeat (with_reducible first | exact HL.out | assumption | refine Prs.drew ?_ | refine Prs.drewN _ ?_ | refine Prs.alloc _ ?_ | refine Prs.step (by assumption) ?_))).mono ?_; rintro e w21 ⟨rfl, hb21⟩; have hka := Bel.ka HB.out hb21 (by repeat (with_reducible first | exact Below.refl _ _ | refine Bel.alloc ?_ _ | refine Below.drew ?_ | refine Bel.drewN ?_ _)); (try (replace HL := Lib.hid (Prs.step hb21 (Prs.step hka HL.out)))); (try (replace HA := Lib.hid (Byts.step hb21 (Byts.step hka HA.out)))); replace HB := Lib.hid (Bel.step hb21 (Bel.step hka HB.out)); have hsz21 := hb21.size; have hsy21 := hka.size; (try simp only [World.size_alloc, World.size_drew, World.heap_drewN, World.size_setCell] at hsz21 hsy21); clear hka hb21
    rw [h1, h2]
    clear h1 h2
    go_wp2_with fail
    go_at_call 21; refine (roll_c A c zs hz 2801 _ HA.out).mono ?_; rintro e w22 ⟨X, rfl, hX, hD, hb22⟩
    go_wp2_with fail
    go_at_call 22; refine (below_c X A zs 401 (by omega) (by omega) _ hD).mono ?_; rintro e w23 ⟨d, rfl, hd0, hd1, hD2, hk23⟩
    have hbx := Kp.bel hk23 hX hb22.size hb22
    replace HL := Lib.hid (Prs.step hbx HL.out)
    replace HB := Lib.hid (Bel.step hbx HB.out)
    clear hbx hk23 hD hD2 hX hb22 HA
    have ed : IntKind.i64.wrap (d - 200) = d - 200 := wr64 (by omega) (by omega)
    go_wp2_with fail
    go_at_call 17; refine (FitOf_I (d - 200) st (some ⟨g, 0, none⟩) q ts (by omega) _ (by repeat (with_reducible first | exact HL.out | assumption | refine Prs.drew ?_ | refine Prs.drewN _ ?_ | refine Prs.alloc _ ?_ | refine Prs.step (by assumption) ?_))).mono ?_; rintro e w24 ⟨rfl, hb24⟩; have hka := Bel.ka HB.out hb24 (by repeat (with_reducible first | exact Below.refl _ _ | refine Bel.alloc ?_ _ | refine Below.drew ?_ | refine Bel.drewN ?_ _)); replace HB := Lib.hid (Bel.step hb24 (Bel.step hka HB.out)); have hsz24 := hb24.size; have hsy24 := hka.size; (try simp only [World.size_alloc, World.size_drew, World.heap_drewN, World.size_setCell] at hsz24 hsy24); clear hka hb24
    obtain ⟨e1, e2⟩ := H3.out (d - 200) (by omega) (by omega)
    rw [e1]
    clear e1 H3
    generalize fitOfV (d - 200) st ts = v2 at *
    go_wp2
    go_ret
    exact ⟨rfl, HB.out⟩
  by_cases hpl : pl < 100000
  rotate_left
  · subst hke
    go_upto_region 18 with (fail)
    obtain ⟨W, rfl⟩ : ∃ W : World, W = wb := ⟨_, rfl⟩
    by_cases hk0 : k = 0
    rotate_left
    · have hkb : (k == 0) = false := by simpa using hk0
      go_wp2
      all_goals (go_ret; exact ⟨rfl, HB.out⟩)
    obtain ⟨h1, h2, h3⟩ := HBest.out hk0
    have H3 := Lib.hid h3
    clear h3 HNext HE
    subst hk0
    go_wp2_with fail
    go_at_call 17; refine (FitOf_I s st (some ⟨g, 0, none⟩) q ts (by omega) _ (by repeat (with_reducible first | exact HL.out | assumption | refine Prs.drew ?_ | refine Prs.drewN _ ?_ | refine Prs.alloc _ ?_ | refine Prs.step (by assumption) ?_))).mono ?_; rintro e w21 ⟨rfl, hb21⟩; have hka := Bel.ka HB.out hb21 (by repeat (with_reducible first | exact Below.refl _ _ | refine Bel.alloc ?_ _ | refine Below.drew ?_ | refine Bel.drewN ?_ _)); (try (replace HL := Lib.hid (Prs.step hb21 (Prs.step hka HL.out)))); (try (replace HA := Lib.hid (Byts.step hb21 (Byts.step hka HA.out)))); replace HB := Lib.hid (Bel.step hb21 (Bel.step hka HB.out)); have hsz21 := hb21.size; have hsy21 := hka.size; (try simp only [World.size_alloc, World.size_drew, World.heap_drewN, World.size_setCell] at hsz21 hsy21); clear hka hb21
    rw [h1, h2]
    clear h1 h2
    go_wp2_with fail
    go_at_call 21; refine (roll_c A c zs hz 2801 _ HA.out).mono ?_; rintro e w22 ⟨X, rfl, hX, hD, hb22⟩
    go_wp2_with fail
    go_at_call 22; refine (below_c X A zs 401 (by omega) (by omega) _ hD).mono ?_; rintro e w23 ⟨d, rfl, hd0, hd1, hD2, hk23⟩
    have hbx := Kp.bel hk23 hX hb22.size hb22
    replace HL := Lib.hid (Prs.step hbx HL.out)
    replace HB := Lib.hid (Bel.step hbx HB.out)
    clear hbx hk23 hD hD2 hX hb22 HA
    have ed : IntKind.i64.wrap (d - 200) = d - 200 := wr64 (by omega) (by omega)
    go_wp2_with fail
    go_at_call 17; refine (FitOf_I (d - 200) st (some ⟨g, 0, none⟩) q ts (by omega) _ (by repeat (with_reducible first | exact HL.out | assumption | refine Prs.drew ?_ | refine Prs.drewN _ ?_ | refine Prs.alloc _ ?_ | refine Prs.step (by assumption) ?_))).mono ?_; rintro e w24 ⟨rfl, hb24⟩; have hka := Bel.ka HB.out hb24 (by repeat (with_reducible first | exact Below.refl _ _ | refine Bel.alloc ?_ _ | refine Below.drew ?_ | refine Bel.drewN ?_ _)); replace HB := Lib.hid (Bel.step hb24 (Bel.step hka HB.out)); have hsz24 := hb24.size; have hsy24 := hka.size; (try simp only [World.size_alloc, World.size_drew, World.heap_drewN, World.size_setCell] at hsz24 hsy24); clear hka hb24
    obtain ⟨e1, e2⟩ := H3.out (d - 200) (by omega) (by omega)
    rw [e1]
    clear e1 H3
    generalize fitOfV (d - 200) st ts = v2 at *
    go_wp2
    go_ret
    exact ⟨rfl, HB.out⟩
  obtain ⟨hn1, hn2⟩ := HNext.out hke hpl
  have hpl0 : 0 ≤ pl := by
    have h0 : seenAtE px py pl = 0 := by rw [← HE.out.1]; exact hke
    unfold seenAtE at h0
    by_cases h1 : isModel px py = true
    · rw [if_pos h1] at h0
      by_cases h2 : inB pl 0 100000 = true
      · exact (inB_iff.1 h2).1
      · rw [if_neg h2] at h0; cases h0
    · rw [if_neg h1] at h0; cases h0
  have epl : IntKind.i64.wrap (pl + 1) = pl + 1 := wr64 (by omega) (by omega)
  have HN2 := Lib.hid hn2
  subst hke
  go_wp2_with (first | (refine wpList_load_blkG 30 _ _ (Blk.step (Bel.ka0 HB.out (by repeat (with_reducible first | exact Below.refl _ _ | refine Bel.alloc ?_ _ | refine Below.drew ?_ | refine Bel.drewN ?_ _))) HM.out) Try.underlying30 (by kernel_rfl) rfl rfl (by rfl) ?_))
  go_at_call 14; refine (SeenAt_I px py (pl + 1) _).mono ?_; rintro e w13 ⟨rfl, hb13⟩; have hka := Bel.ka HB.out hb13 (by repeat (with_reducible first | exact Below.refl _ _ | refine Bel.alloc ?_ _ | refine Below.drew ?_ | refine Bel.drewN ?_ _)); (try (replace HL := Lib.hid (Prs.step hb13 (Prs.step hka HL.out)))); (try (replace HA := Lib.hid (Byts.step hb13 (Byts.step hka HA.out)))); replace HB := Lib.hid (Bel.step hb13 (Bel.step hka HB.out)); have hsz13 := hb13.size; have hsy13 := hka.size; (try simp only [World.size_alloc, World.size_drew, World.heap_drewN, World.size_setCell] at hsz13 hsy13); clear hka hb13
  rw [hn1]
  clear hn1 hn2 epl
  have hn2 := HN2.out
  clear HN2
  generalize seenAtV px py (pl + 1) = nv at *
  have hlt : ¬ nv < xv := by omega
  go_upto_region 18 with (fail)
  obtain ⟨W, rfl⟩ : ∃ W : World, W = w13 := ⟨_, rfl⟩
  by_cases hk0 : k = 0
  rotate_left
  · have hkb : (k == 0) = false := by simpa using hk0
    go_wp2
    all_goals (go_ret; exact ⟨rfl, HB.out⟩)
  obtain ⟨h1, h2, h3⟩ := HBest.out hk0
  have H3 := Lib.hid h3
  clear h3 HNext HE
  subst hk0
  go_wp2_with fail
  go_at_call 17; refine (FitOf_I s st (some ⟨g, 0, none⟩) q ts (by omega) _ (by repeat (with_reducible first | exact HL.out | assumption | refine Prs.drew ?_ | refine Prs.drewN _ ?_ | refine Prs.alloc _ ?_ | refine Prs.step (by assumption) ?_))).mono ?_; rintro e w21 ⟨rfl, hb21⟩; have hka := Bel.ka HB.out hb21 (by repeat (with_reducible first | exact Below.refl _ _ | refine Bel.alloc ?_ _ | refine Below.drew ?_ | refine Bel.drewN ?_ _)); (try (replace HL := Lib.hid (Prs.step hb21 (Prs.step hka HL.out)))); (try (replace HA := Lib.hid (Byts.step hb21 (Byts.step hka HA.out)))); replace HB := Lib.hid (Bel.step hb21 (Bel.step hka HB.out)); have hsz21 := hb21.size; have hsy21 := hka.size; (try simp only [World.size_alloc, World.size_drew, World.heap_drewN, World.size_setCell] at hsz21 hsy21); clear hka hb21
  rw [h1, h2]
  clear h1 h2
  go_wp2_with fail
  go_at_call 21; refine (roll_c A c zs hz 2801 _ HA.out).mono ?_; rintro e w22 ⟨X, rfl, hX, hD, hb22⟩
  go_wp2_with fail
  go_at_call 22; refine (below_c X A zs 401 (by omega) (by omega) _ hD).mono ?_; rintro e w23 ⟨d, rfl, hd0, hd1, hD2, hk23⟩
  have hbx := Kp.bel hk23 hX hb22.size hb22
  replace HL := Lib.hid (Prs.step hbx HL.out)
  replace HB := Lib.hid (Bel.step hbx HB.out)
  clear hbx hk23 hD hD2 hX hb22 HA
  have ed : IntKind.i64.wrap (d - 200) = d - 200 := wr64 (by omega) (by omega)
  go_wp2_with fail
  go_at_call 17; refine (FitOf_I (d - 200) st (some ⟨g, 0, none⟩) q ts (by omega) _ (by repeat (with_reducible first | exact HL.out | assumption | refine Prs.drew ?_ | refine Prs.drewN _ ?_ | refine Prs.alloc _ ?_ | refine Prs.step (by assumption) ?_))).mono ?_; rintro e w24 ⟨rfl, hb24⟩; have hka := Bel.ka HB.out hb24 (by repeat (with_reducible first | exact Below.refl _ _ | refine Bel.alloc ?_ _ | refine Below.drew ?_ | refine Bel.drewN ?_ _)); replace HB := Lib.hid (Bel.step hb24 (Bel.step hka HB.out)); have hsz24 := hb24.size; have hsy24 := hka.size; (try simp only [World.size_alloc, World.size_drew, World.heap_drewN, World.size_setCell] at hsz24 hsy24); clear hka hb24
  obtain ⟨e1, e2⟩ := H3.out (d - 200) (by omega) (by omega)
  rw [e1]
  clear e1 H3
  generalize fitOfV (d - 200) st ts = v2 at *
  go_wp2
  go_ret
  exact ⟨rfl, HB.out⟩
end Go.Proofs.Ythfphjbaglgacaa
