/- The statement FnLayouts, walked. No conditions. -/
import Derived.Test.YtpmcgicopogbhaaProg
import Derived.Test.YtpmcgicopogbhaaBase
import Derived.Test.YtpmcgicopogbhaaRw
import Derived.Test.YtpmcgicopogbhaaRg
import Derived.Test.YtpmcgicopogbhaaL01
import Derived.Test.YtpmcgicopogbhaaCp
import Derived.Test.YtpmcgicopogbhaaCm
import Derived.Test.YtpmcgicopogbhaaL18
import Derived.Test.YtpmcgicopogbhaaL23
import Derived.Test.YtpmcgicopogbhaaL03
import Derived.Test.YtpmcgicopogbhaaL04
import Derived.Test.YtpmcgicopogbhaaL23d
import Derived.Test.YtpmcgicopogbhaaL23e
import Derived.Test.YtpmcgicopogbhaaL23f
import Derived.Test.YtpmcgicopogbhaaL24
import Derived.Test.YtpmcgicopogbhaaL24b
import Derived.Test.YtpmcgicopogbhaaL24c
import Derived.Test.YtpmcgicopogbhaaL24d
import Derived.Test.YtpmcgicopogbhaaL24f
import Derived.Test.YtpmcgicopogbhaaL24g
import Derived.Test.YtpmcgicopogbhaaL24r
import Derived.Test.YtpmcgicopogbhaaL23g
import Derived.Test.YtpmcgicopogbhaaL23h
import Derived.Test.YtpmcgicopogbhaaL26a
import Derived.Test.YtpmcgicopogbhaaL26b
import Derived.Test.YtpmcgicopogbhaaL26c
import Derived.Test.YtpmcgicopogbhaaL26d
import Derived.Test.YtpmcgicopogbhaaL26h
import Derived.Test.YtpmcgicopogbhaaL26i
import Derived.Test.YtpmcgicopogbhaaL26j
import Derived.Test.YtpmcgicopogbhaaL26k
import Derived.Test.YtpmcgicopogbhaaL26l
import Derived.Test.YtpmcgicopogbhaaM24
import Derived.Test.YtpmcgicopogbhaaM24r
import Derived.Test.YtpmcgicopogbhaaL27o
import Derived.Test.YtpmcgicopogbhaaP26
import Derived.Test.YtpmcgicopogbhaaDc
import Derived.Test.YtpmcgicopogbhaaD00
import Derived.Test.YtpmcgicopogbhaaD01
import Derived.Test.YtpmcgicopogbhaaD26
import Derived.Test.YtpmcgicopogbhaaE24
import Derived.Test.YtpmcgicopogbhaaE24f
import Derived.Test.YtpmcgicopogbhaaE23
import Derived.WalkKit
import Derived.WalkSpells
import Derived.WalkLawsBesides
import Derived.Lib.Hide
import Derived.Deep.QuietTactic
import Derived.BigQuiet
import Derived.Deep.Draws
import Derived.Deep.RegionHeld3
import Derived.Deep.Cut
namespace Go.Proofs.Ytpmcgicopogbhaa
open Go.RowKit
set_option linter.unusedVariables false
set_option linter.unusedSimpArgs false
theorem mnP_le_mxP (l : List Int) (k : Nat) : mnP l k ≤ mxP l k := by
  induction k with
  | zero => exact Int.le_refl _
  | succ k ih => unfold mnP mxP mn mx; split <;> split <;> omega
theorem he_nonneg (C : Ch) (us vs : List (Int × Int)) : 0 ≤ heV C us vs := by
  have := mnP_le_mxP (hL C us vs) (hL C us vs).length
  unfold heV htV
  split
  · split <;> omega
  · omega
set_option maxRecDepth 50000 in
set_option maxHeartbeats 32000000 in
theorem FnLayouts_w (w : World) (A : Option Addr) (c : Nat) (zs : List Int) (hl : zs.length ≤ 9223372036854775807) (hA : Byts w A zs) :
    Calls Try.prog 7 #[.slice A zs.length c] w fun e w' => e = .returned (.bool true) ∧ Below w.heap.size w w' := by
  have HB := Lib.hid (Below.refl w.heap.size w)
  by_cases hz : zs.length ≤ 4096
  rotate_left
  · go_enter Try.func7, Try.ntmps7
    go_wp2_with fail
    go_at_call 8; refine (big_yes A c zs.length (by omega) _).mono ?_; rintro e w' ⟨rfl, rfl⟩
    go_wp2
    go_ret
    exact ⟨rfl, HB.out⟩
  have HA := Lib.hid hA
  clear hA hl
  go_enter Try.func7, Try.ntmps7
  go_wp2_with fail
  go_at_call 8; refine (big_no A c zs.length hz _).mono ?_; rintro e w' ⟨rfl, rfl⟩
  go_wp2_with fail
  go_at_call 59; refine (DrawLayoutError_c A c zs hz _ HA.out).mono ?_; rintro e w1 ⟨C, g, q, us, vs, G, H, cu, cv, ey, rfl, hn0, hm0, hu0, hv0, hO, hU, hV, hb1⟩; have hka := Bel.ka HB.out hb1 (by repeat (with_reducible first | exact Below.refl _ _ | refine Bel.alloc ?_ _ | refine Below.drew ?_ | refine Bel.drewN ?_ _)); (try (replace HA := Lib.hid (Byts.step hb1 (Byts.step hka HA.out)))); replace HB := Lib.hid (Bel.step hb1 (Bel.step hka HB.out)); have hsz1 := hb1.size; have hsy1 := hka.size; (try simp only [World.size_alloc, World.size_drew, World.heap_drewN, World.size_setCell] at hsz1 hsy1); clear hka hb1
  have HI := Lib.hid hO.ints
  have HU := Lib.hid (show Prs w1 G us by obtain ⟨A', c', e, _, _, h, _⟩ := hU.form; injection e with e1; rw [e1]; exact h)
  have HV := Lib.hid (show Prs w1 H vs by obtain ⟨A', c', e, _, _, h, _⟩ := hV.form; injection e with e1; rw [e1]; exact h)
  have hn : C.zs.length ≤ 1048576 := by omega
  have hm : C.nm.size ≤ 1048576 := by omega
  have hun : us.length ≤ 1048576 := by omega
  have hvn : vs.length ≤ 1048576 := by omega
  clear hO hU hV hn0 hm0
  have HR := Lib.hid (by have h := Blk.new w1 30 #[.int .i64 C.dg, .int .i64 C.tn, .string C.nm, .slice (some ⟨g, 0, none⟩) C.zs.length q, .int .i64 C.wd, .int .i64 C.lf, .int .i64 C.rt]; (try simp only [World.size_alloc] at h); exact h)
  replace HI := Lib.hid (Ints.alloc (.cells #[.int .i64 C.dg, .int .i64 C.tn, .string C.nm, .slice (some ⟨g, 0, none⟩) C.zs.length q, .int .i64 C.wd, .int .i64 C.lf, .int .i64 C.rt] 30) HI.out)
  replace HU := Lib.hid (Prs.alloc (.cells #[.int .i64 C.dg, .int .i64 C.tn, .string C.nm, .slice (some ⟨g, 0, none⟩) C.zs.length q, .int .i64 C.wd, .int .i64 C.lf, .int .i64 C.rt] 30) HU.out)
  replace HV := Lib.hid (Prs.alloc (.cells #[.int .i64 C.dg, .int .i64 C.tn, .string C.nm, .slice (some ⟨g, 0, none⟩) C.zs.length q, .int .i64 C.wd, .int .i64 C.lf, .int .i64 C.rt] 30) HV.out)
  replace HA := Lib.hid (Byts.alloc (.cells #[.int .i64 C.dg, .int .i64 C.tn, .string C.nm, .slice (some ⟨g, 0, none⟩) C.zs.length q, .int .i64 C.wd, .int .i64 C.lf, .int .i64 C.rt] 30) HA.out)
  replace HB := Lib.hid (Bel.alloc HB.out (.cells #[.int .i64 C.dg, .int .i64 C.tn, .string C.nm, .slice (some ⟨g, 0, none⟩) C.zs.length q, .int .i64 C.wd, .int .i64 C.lf, .int .i64 C.rt] 30))
  go_wp2_with (first | (refine wpList_load_blkG 30 _ _ (Blk.step (Bel.ka0 HB.out (by repeat (with_reducible first | exact Below.refl _ _ | refine Bel.alloc ?_ _ | refine Below.drew ?_ | refine Bel.drewN ?_ _))) HR.out) Try.underlying30 (by kernel_rfl) rfl rfl (by rfl) ?_))
  go_at_call 60; refine (LayoutError_I C (some ⟨g, 0, none⟩) q G cu us H cv vs ey hn hm hun hvn _ (by repeat (with_reducible first | exact HI.out | assumption | refine Ints.drew ?_ | refine Ints.drewN _ ?_ | refine Ints.alloc _ ?_ | refine Ints.step (by assumption) ?_)) (by repeat (with_reducible first | exact HU.out | assumption | refine Prs.drew ?_ | refine Prs.drewN _ ?_ | refine Prs.alloc _ ?_ | refine Prs.step (by assumption) ?_)) (by repeat (with_reducible first | exact HV.out | assumption | refine Prs.drew ?_ | refine Prs.drewN _ ?_ | refine Prs.alloc _ ?_ | refine Prs.step (by assumption) ?_))).mono ?_; rintro e w2 ⟨rfl, hb2⟩; have hka := Bel.ka HB.out hb2 (by repeat (with_reducible first | exact Below.refl _ _ | refine Bel.alloc ?_ _ | refine Below.drew ?_ | refine Bel.drewN ?_ _)); (try (replace HR := Lib.hid (Blk.step hb2 (Blk.step hka HR.out)))); (try (replace HI := Lib.hid (Ints.step hb2 (Ints.step hka HI.out)))); (try (replace HU := Lib.hid (Prs.step hb2 (Prs.step hka HU.out)))); (try (replace HV := Lib.hid (Prs.step hb2 (Prs.step hka HV.out)))); (try (replace HA := Lib.hid (Byts.step hb2 (Byts.step hka HA.out)))); replace HB := Lib.hid (Bel.step hb2 (Bel.step hka HB.out)); have hsz2 := hb2.size; have hsy2 := hka.size; (try simp only [World.size_alloc, World.size_drew, World.heap_drewN, World.size_setCell] at hsz2 hsy2); clear hka hb2
  go_wp2_with (first | (refine wpList_load_blkG 30 _ _ (Blk.step (Bel.ka0 HB.out (by repeat (with_reducible first | exact Below.refl _ _ | refine Bel.alloc ?_ _ | refine Below.drew ?_ | refine Bel.drewN ?_ _))) HR.out) Try.underlying30 (by kernel_rfl) rfl rfl (by rfl) ?_))
  go_at_call 61; refine (LayoutError_S C (some ⟨g, 0, none⟩) q G cu us H cv vs ey hn hm hun hvn _ (by repeat (with_reducible first | exact HI.out | assumption | refine Ints.drew ?_ | refine Ints.drewN _ ?_ | refine Ints.alloc _ ?_ | refine Ints.step (by assumption) ?_)) (by repeat (with_reducible first | exact HU.out | assumption | refine Prs.drew ?_ | refine Prs.drewN _ ?_ | refine Prs.alloc _ ?_ | refine Prs.step (by assumption) ?_)) (by repeat (with_reducible first | exact HV.out | assumption | refine Prs.drew ?_ | refine Prs.drewN _ ?_ | refine Prs.alloc _ ?_ | refine Prs.step (by assumption) ?_))).mono ?_; rintro e w3 ⟨rfl, hb3⟩; have hka := Bel.ka HB.out hb3 (by repeat (with_reducible first | exact Below.refl _ _ | refine Bel.alloc ?_ _ | refine Below.drew ?_ | refine Bel.drewN ?_ _)); (try (replace HR := Lib.hid (Blk.step hb3 (Blk.step hka HR.out)))); (try (replace HI := Lib.hid (Ints.step hb3 (Ints.step hka HI.out)))); (try (replace HU := Lib.hid (Prs.step hb3 (Prs.step hka HU.out)))); (try (replace HV := Lib.hid (Prs.step hb3 (Prs.step hka HV.out)))); (try (replace HA := Lib.hid (Byts.step hb3 (Byts.step hka HA.out)))); replace HB := Lib.hid (Bel.step hb3 (Bel.step hka HB.out)); have hsz3 := hb3.size; have hsy3 := hka.size; (try simp only [World.size_alloc, World.size_drew, World.heap_drewN, World.size_setCell] at hsz3 hsy3); clear hka hb3
  go_wp2_with (first | (refine wpList_load_blkG 30 _ _ (Blk.step (Bel.ka0 HB.out (by repeat (with_reducible first | exact Below.refl _ _ | refine Bel.alloc ?_ _ | refine Below.drew ?_ | refine Bel.drewN ?_ _))) HR.out) Try.underlying30 (by kernel_rfl) rfl rfl (by rfl) ?_))
  go_at_call 62; refine (WorstPair_I C (some ⟨g, 0, none⟩) q G cu us H cv vs ey hn hm hun hvn _ (by repeat (with_reducible first | exact HI.out | assumption | refine Ints.drew ?_ | refine Ints.drewN _ ?_ | refine Ints.alloc _ ?_ | refine Ints.step (by assumption) ?_)) (by repeat (with_reducible first | exact HU.out | assumption | refine Prs.drew ?_ | refine Prs.drewN _ ?_ | refine Prs.alloc _ ?_ | refine Prs.step (by assumption) ?_)) (by repeat (with_reducible first | exact HV.out | assumption | refine Prs.drew ?_ | refine Prs.drewN _ ?_ | refine Prs.alloc _ ?_ | refine Prs.step (by assumption) ?_))).mono ?_; rintro e w4 ⟨rfl, hb4⟩; have hka := Bel.ka HB.out hb4 (by repeat (with_reducible first | exact Below.refl _ _ | refine Bel.alloc ?_ _ | refine Below.drew ?_ | refine Bel.drewN ?_ _)); (try (replace HR := Lib.hid (Blk.step hb4 (Blk.step hka HR.out)))); (try (replace HI := Lib.hid (Ints.step hb4 (Ints.step hka HI.out)))); (try (replace HU := Lib.hid (Prs.step hb4 (Prs.step hka HU.out)))); (try (replace HV := Lib.hid (Prs.step hb4 (Prs.step hka HV.out)))); (try (replace HA := Lib.hid (Byts.step hb4 (Byts.step hka HA.out)))); replace HB := Lib.hid (Bel.step hb4 (Bel.step hka HB.out)); have hsz4 := hb4.size; have hsy4 := hka.size; (try simp only [World.size_alloc, World.size_drew, World.heap_drewN, World.size_setCell] at hsz4 hsy4); clear hka hb4
  go_wp2_with (first | (refine wpList_load_blkG 30 _ _ (Blk.step (Bel.ka0 HB.out (by repeat (with_reducible first | exact Below.refl _ _ | refine Bel.alloc ?_ _ | refine Below.drew ?_ | refine Bel.drewN ?_ _))) HR.out) Try.underlying30 (by kernel_rfl) rfl rfl (by rfl) ?_))
  go_at_call 63; refine (WorstPair_S C (some ⟨g, 0, none⟩) q G cu us H cv vs ey hn hm hun hvn _ (by repeat (with_reducible first | exact HI.out | assumption | refine Ints.drew ?_ | refine Ints.drewN _ ?_ | refine Ints.alloc _ ?_ | refine Ints.step (by assumption) ?_)) (by repeat (with_reducible first | exact HU.out | assumption | refine Prs.drew ?_ | refine Prs.drewN _ ?_ | refine Prs.alloc _ ?_ | refine Prs.step (by assumption) ?_)) (by repeat (with_reducible first | exact HV.out | assumption | refine Prs.drew ?_ | refine Prs.drewN _ ?_ | refine Prs.alloc _ ?_ | refine Prs.step (by assumption) ?_))).mono ?_; rintro e w5 ⟨rfl, hb5⟩; have hka := Bel.ka HB.out hb5 (by repeat (with_reducible first | exact Below.refl _ _ | refine Bel.alloc ?_ _ | refine Below.drew ?_ | refine Bel.drewN ?_ _)); (try (replace HR := Lib.hid (Blk.step hb5 (Blk.step hka HR.out)))); (try (replace HI := Lib.hid (Ints.step hb5 (Ints.step hka HI.out)))); (try (replace HU := Lib.hid (Prs.step hb5 (Prs.step hka HU.out)))); (try (replace HV := Lib.hid (Prs.step hb5 (Prs.step hka HV.out)))); (try (replace HA := Lib.hid (Byts.step hb5 (Byts.step hka HA.out)))); replace HB := Lib.hid (Bel.step hb5 (Bel.step hka HB.out)); have hsz5 := hb5.size; have hsy5 := hka.size; (try simp only [World.size_alloc, World.size_drew, World.heap_drewN, World.size_setCell] at hsz5 hsy5); clear hka hb5
  go_wp2_with (first | (refine wpList_load_blkG 30 _ _ (Blk.step (Bel.ka0 HB.out (by repeat (with_reducible first | exact Below.refl _ _ | refine Bel.alloc ?_ _ | refine Below.drew ?_ | refine Bel.drewN ?_ _))) HR.out) Try.underlying30 (by kernel_rfl) rfl rfl (by rfl) ?_))
  go_at_call 64; refine (HeightOf_I C (some ⟨g, 0, none⟩) q G cu us H cv vs hn hm hun hvn _ (by repeat (with_reducible first | exact HI.out | assumption | refine Ints.drew ?_ | refine Ints.drewN _ ?_ | refine Ints.alloc _ ?_ | refine Ints.step (by assumption) ?_)) (by repeat (with_reducible first | exact HU.out | assumption | refine Prs.drew ?_ | refine Prs.drewN _ ?_ | refine Prs.alloc _ ?_ | refine Prs.step (by assumption) ?_)) (by repeat (with_reducible first | exact HV.out | assumption | refine Prs.drew ?_ | refine Prs.drewN _ ?_ | refine Prs.alloc _ ?_ | refine Prs.step (by assumption) ?_))).mono ?_; rintro e w6 ⟨rfl, hb6⟩; have hka := Bel.ka HB.out hb6 (by repeat (with_reducible first | exact Below.refl _ _ | refine Bel.alloc ?_ _ | refine Below.drew ?_ | refine Bel.drewN ?_ _)); (try (replace HR := Lib.hid (Blk.step hb6 (Blk.step hka HR.out)))); (try (replace HI := Lib.hid (Ints.step hb6 (Ints.step hka HI.out)))); (try (replace HU := Lib.hid (Prs.step hb6 (Prs.step hka HU.out)))); (try (replace HV := Lib.hid (Prs.step hb6 (Prs.step hka HV.out)))); (try (replace HA := Lib.hid (Byts.step hb6 (Byts.step hka HA.out)))); replace HB := Lib.hid (Bel.step hb6 (Bel.step hka HB.out)); have hsz6 := hb6.size; have hsy6 := hka.size; (try simp only [World.size_alloc, World.size_drew, World.heap_drewN, World.size_setCell] at hsz6 hsy6); clear hka hb6
  have hhe := he_nonneg C us vs
  obtain ⟨hv_, hhv⟩ : ∃ k, k = heV C us vs := ⟨_, rfl⟩
  rw [← hhv] at hhe ⊢
  go_wp2_with (first | (refine wpList_load_blkG 30 _ _ (Blk.step (Bel.ka0 HB.out (by repeat (with_reducible first | exact Below.refl _ _ | refine Bel.alloc ?_ _ | refine Below.drew ?_ | refine Bel.drewN ?_ _))) HR.out) Try.underlying30 (by kernel_rfl) rfl rfl (by rfl) ?_))
  go_at_call 65; refine (HeightOf_S C (some ⟨g, 0, none⟩) q G cu us H cv vs hn hm hun hvn _ (by repeat (with_reducible first | exact HI.out | assumption | refine Ints.drew ?_ | refine Ints.drewN _ ?_ | refine Ints.alloc _ ?_ | refine Ints.step (by assumption) ?_)) (by repeat (with_reducible first | exact HU.out | assumption | refine Prs.drew ?_ | refine Prs.drewN _ ?_ | refine Prs.alloc _ ?_ | refine Prs.step (by assumption) ?_)) (by repeat (with_reducible first | exact HV.out | assumption | refine Prs.drew ?_ | refine Prs.drewN _ ?_ | refine Prs.alloc _ ?_ | refine Prs.step (by assumption) ?_))).mono ?_; rintro e w7 ⟨rfl, hb7⟩; have hka := Bel.ka HB.out hb7 (by repeat (with_reducible first | exact Below.refl _ _ | refine Bel.alloc ?_ _ | refine Below.drew ?_ | refine Bel.drewN ?_ _)); (try (replace HR := Lib.hid (Blk.step hb7 (Blk.step hka HR.out)))); (try (replace HI := Lib.hid (Ints.step hb7 (Ints.step hka HI.out)))); (try (replace HU := Lib.hid (Prs.step hb7 (Prs.step hka HU.out)))); (try (replace HV := Lib.hid (Prs.step hb7 (Prs.step hka HV.out)))); (try (replace HA := Lib.hid (Byts.step hb7 (Byts.step hka HA.out)))); replace HB := Lib.hid (Bel.step hb7 (Bel.step hka HB.out)); have hsz7 := hb7.size; have hsy7 := hka.size; (try simp only [World.size_alloc, World.size_drew, World.heap_drewN, World.size_setCell] at hsz7 hsy7); clear hka hb7
  rw [← hhv]
  clear hhv
  generalize heC C us vs = hc_
  have hhb : ¬ hv_ < 0 := by omega
  by_cases hle : leC C us vs ey = 0
  rotate_left
  · have hlb : (leC C us vs ey == 0) = false := by simpa using hle
    generalize leC C us vs ey = lc at *
    generalize (leV C us vs ey).1 = l1
    generalize (leV C us vs ey).2.1 = l2
    generalize (leV C us vs ey).2.2 = l3
    go_wp2
    all_goals (go_ret; exact ⟨rfl, HB.out⟩)
  have hf := ly_facts hle
  obtain ⟨hz0, hz1⟩ := ly_zero hle
  rw [hle]
  obtain ⟨i0, k0, hi0, hk0, a1, a2, a3⟩ := hf.at_
  rw [a1, a2]
  obtain ⟨l1, hl1⟩ : ∃ k, k = (leV C us vs ey).1 := ⟨_, rfl⟩
  have hcl := hf.cl i0 k0 hi0 hk0
  have hrq := hcl.1
  have hrr : rrV C us[i0].1 us[i0].2 vs[k0].1 vs[k0].2 ey = l1 := by rw [hcl.2.1, a3, hl1]
  clear hcl a3
  obtain ⟨ud, hud⟩ : ∃ k, k = us[i0].1 := ⟨_, rfl⟩
  obtain ⟨ut, hut⟩ : ∃ k, k = us[i0].2 := ⟨_, rfl⟩
  obtain ⟨vd, hvd⟩ : ∃ k, k = vs[k0].1 := ⟨_, rfl⟩
  obtain ⟨vt, hvt⟩ : ∃ k, k = vs[k0].2 := ⟨_, rfl⟩
  rw [← hud, ← hut, ← hvd, ← hvt] at hrq hrr
  have HUD := Lib.hid (And.intro hud (And.intro hut (And.intro hvd hvt)))
  clear hud hut hvd hvt
  obtain ⟨bu, ou, hGe, hbu, -, -⟩ := HU.out.at_ i0 hi0
  obtain ⟨bv, ov, hHe, hbv, -, -⟩ := HV.out.at_ k0 hk0
  subst hGe hHe
  rw [← hl1]
  rw [← hl1] at hz1
  have hall : ∀ (i k : Nat) (hi : i < us.length) (hk : k < vs.length), rqC C us[i].1 us[i].2 vs[k].1 vs[k].2 ey = 0 ∧ rrV C us[i].1 us[i].2 vs[k].1 vs[k].2 ey ≤ l1 := fun i k hi hk => by
    obtain ⟨x1, x2, x3⟩ := hf.cl i k hi hk
    exact ⟨x1, by rw [x2, hl1]; exact x3⟩
  have HALL := Lib.hid hall
  clear hall hf hl1
  have hu1 : 1 ≤ us.length := by omega
  have hv1 : 1 ≤ vs.length := by omega
  have hi0i : (i0 : Int) < us.length := by omega
  have hk0i : (k0 : Int) < vs.length := by omega
  clear a1 a2 hsz1 hsy1 hsz2 hsy2 hsz3 hsy3 hsz4 hsy4 hsz5 hsy5 hsz6 hsy6
  by_cases hhc : hc_ = 0
  rotate_left
  · skip
    go_upto_region 14 with (fail)
    refine wp_region_held_drew (S := fun W => Blk W w1.heap.size 30 #[.int .i64 C.dg, .int .i64 C.tn, .string C.nm, .slice (some ⟨g, 0, none⟩) C.zs.length q, .int .i64 C.wd, .int .i64 C.lf, .int .i64 C.rt] ∧ Prs W (some ⟨bu, ou, none⟩) us ∧ Prs W (some ⟨bv, ov, none⟩) vs) (by kernel_rfl) (⟨HR.out.drew, HU.out.drew, HV.out.drew⟩) (fun hHeld => ?_)
    replace HR := Lib.hid HR.out.drew
    replace HI := Lib.hid HI.out.drew
    replace HU := Lib.hid HU.out.drew
    replace HV := Lib.hid HV.out.drew
    replace HA := Lib.hid (Byts.step (Below.drew (Below.refl _ _)) HA.out)
    replace HB := Lib.hid (Below.drew HB.out)
    generalize w7.drew = v8 at HR HI HU HV HA HB hHeld ⊢
    refine wpAnyH_take (i := 0) (v := .agg #[.int .i64 C.dg, .int .i64 C.tn, .string C.nm, .slice (some ⟨g, 0, none⟩) C.zs.length q, .int .i64 C.wd, .int .i64 C.lf, .int .i64 C.rt]) rfl (by kernel_rfl) (by kernel_rfl) (by kernel_rfl) (fun _ _ _ h => h) (yieldsIf_load_blk 30 _ (w1.heap.size) (fun _ h => h.1) Try.underlying30 (by kernel_rfl) (by rfl) rfl rfl) hHeld ?_
    simp only [Act.put, List.getElem_toArray, List.getElem_cons_succ, List.getElem_cons_zero, List.setIfInBounds_toArray, List.set_cons_zero, List.set_cons_succ]
    refine wpAnyH_take (i := 1) (v := (.slice (some ⟨bu, ou, none⟩) us.length cu)) rfl (by kernel_rfl) (by kernel_rfl) (by kernel_rfl) (fun _ _ _ h => h) (Or.inl ⟨by rfl, fun w _ => by simp [go_sem, execOp]⟩) hHeld ?_
    simp only [Act.put, List.getElem_toArray, List.getElem_cons_succ, List.getElem_cons_zero, List.setIfInBounds_toArray, List.set_cons_zero, List.set_cons_succ]
    refine wpAnyH_take (i := 2) (v := (.int .i64 i0)) rfl (by kernel_rfl) (by kernel_rfl) (by kernel_rfl) (fun _ _ _ h => h) (Or.inl ⟨by rfl, fun w _ => by simp [go_sem, execOp]⟩) hHeld ?_
    simp only [Act.put, List.getElem_toArray, List.getElem_cons_succ, List.getElem_cons_zero, List.setIfInBounds_toArray, List.set_cons_zero, List.set_cons_succ]
    refine wpAnyH_take (i := 3) (v := (.pointer (some ⟨bu, ou + i0 * 2, none⟩))) rfl (by kernel_rfl) (by kernel_rfl) (by kernel_rfl) (fun _ _ _ h => h) (Or.inl ⟨by rfl, fun w' h => by simp [go_sem, execOp, hi0i, hi0]⟩) hHeld ?_
    simp only [Act.put, List.getElem_toArray, List.getElem_cons_succ, List.getElem_cons_zero, List.setIfInBounds_toArray, List.set_cons_zero, List.set_cons_succ]
    refine wpAnyH_take (i := 4) (v := (.agg #[.int .i64 ud, .int .i64 ut])) rfl (by kernel_rfl) (by kernel_rfl) (by kernel_rfl) (fun _ _ _ h => h) (Or.inl ⟨by rfl, fun w' h => by obtain ⟨b', o', e', _, q0, q1⟩ := h.2.1.at_ i0 hi0; injection e' with e'; injection e' with e1 e2; subst e1 e2; rw [← HUD.out.1] at q0; rw [← HUD.out.2.1] at q1; simp [go_sem, execOp, q0, q1]⟩) hHeld ?_
    simp only [Act.put, List.getElem_toArray, List.getElem_cons_succ, List.getElem_cons_zero, List.setIfInBounds_toArray, List.set_cons_zero, List.set_cons_succ]
    refine wpAnyH_take (i := 5) (v := (.slice (some ⟨bv, ov, none⟩) vs.length cv)) rfl (by kernel_rfl) (by kernel_rfl) (by kernel_rfl) (fun _ _ _ h => h) (Or.inl ⟨by rfl, fun w _ => by simp [go_sem, execOp]⟩) hHeld ?_
    simp only [Act.put, List.getElem_toArray, List.getElem_cons_succ, List.getElem_cons_zero, List.setIfInBounds_toArray, List.set_cons_zero, List.set_cons_succ]
    refine wpAnyH_take (i := 6) (v := (.int .i64 k0)) rfl (by kernel_rfl) (by kernel_rfl) (by kernel_rfl) (fun _ _ _ h => h) (Or.inl ⟨by rfl, fun w _ => by simp [go_sem, execOp]⟩) hHeld ?_
    simp only [Act.put, List.getElem_toArray, List.getElem_cons_succ, List.getElem_cons_zero, List.setIfInBounds_toArray, List.set_cons_zero, List.set_cons_succ]
    refine wpAnyH_take (i := 7) (v := (.pointer (some ⟨bv, ov + k0 * 2, none⟩))) rfl (by kernel_rfl) (by kernel_rfl) (by kernel_rfl) (fun _ _ _ h => h) (Or.inl ⟨by rfl, fun w' h => by simp [go_sem, execOp, hk0i, hk0]⟩) hHeld ?_
    simp only [Act.put, List.getElem_toArray, List.getElem_cons_succ, List.getElem_cons_zero, List.setIfInBounds_toArray, List.set_cons_zero, List.set_cons_succ]
    refine wpAnyH_take (i := 8) (v := (.agg #[.int .i64 vd, .int .i64 vt])) rfl (by kernel_rfl) (by kernel_rfl) (by kernel_rfl) (fun _ _ _ h => h) (Or.inl ⟨by rfl, fun w' h => by obtain ⟨b', o', e', _, q0, q1⟩ := h.2.2.at_ k0 hk0; injection e' with e'; injection e' with e1 e2; subst e1 e2; rw [← HUD.out.2.2.1] at q0; rw [← HUD.out.2.2.2] at q1; simp [go_sem, execOp, q0, q1]⟩) hHeld ?_
    simp only [Act.put, List.getElem_toArray, List.getElem_cons_succ, List.getElem_cons_zero, List.setIfInBounds_toArray, List.set_cons_zero, List.set_cons_succ]
    refine wpAnyH_take (i := 9) (v := (.int .i64 ey)) rfl (by kernel_rfl) (by kernel_rfl) (by kernel_rfl) (fun _ _ _ h => h) (Or.inl ⟨by rfl, fun w _ => by simp [go_sem, execOp]⟩) hHeld ?_
    simp only [Act.put, List.getElem_toArray, List.getElem_cons_succ, List.getElem_cons_zero, List.setIfInBounds_toArray, List.set_cons_zero, List.set_cons_succ]
    refine wpAnyH_ready (rs := [10]) (by kernel_rfl) (by simp) ?_
    refine AllReadyH.cons rfl (fun K hK => ?_) (AllReadyH.nil)
    go_simp
    go_at_call 66; refine (ReadingError_I C (some ⟨g, 0, none⟩) q ud ut vd vt ey hn hm _ (by repeat (with_reducible first | exact HI.out | assumption | refine Ints.drew ?_ | refine Ints.drewN _ ?_ | refine Ints.alloc _ ?_ | refine Ints.step (by assumption) ?_))).mono ?_; rintro e w9 ⟨rfl, hb9⟩; have hka := Bel.ka HB.out hb9 (by repeat (with_reducible first | exact Below.refl _ _ | refine Bel.alloc ?_ _ | refine Below.drew ?_ | refine Bel.drewN ?_ _)); (try (replace HR := Lib.hid (Blk.step hb9 (Blk.step hka HR.out)))); (try (replace HI := Lib.hid (Ints.step hb9 (Ints.step hka HI.out)))); (try (replace HU := Lib.hid (Prs.step hb9 (Prs.step hka HU.out)))); (try (replace HV := Lib.hid (Prs.step hb9 (Prs.step hka HV.out)))); (try (replace HA := Lib.hid (Byts.step hb9 (Byts.step hka HA.out)))); replace HB := Lib.hid (Bel.step hb9 (Bel.step hka HB.out)); have hsz9 := hb9.size; have hsy9 := hka.size; (try simp only [World.size_alloc, World.size_drew, World.heap_drewN, World.size_setCell] at hsz9 hsy9); clear hka hb9
    rw [hrq, hrr]
    refine hK.out _ _ (⟨HR.out, HU.out, HV.out⟩) (fun hHeld => ?_)
    clear hK K
    try simp only [Act.put, List.setIfInBounds_toArray, List.set_cons_zero, List.set_cons_succ]
    refine wpAnyH_take (i := 11) (v := (.tuple #[.int .i64 l1, .int .i64 0])) rfl (by kernel_rfl) (by kernel_rfl) (by kernel_rfl) (fun _ _ _ h => h) (Or.inl ⟨by rfl, fun w _ => by simp [go_sem, execOp]⟩) hHeld ?_
    simp only [Act.put, List.getElem_toArray, List.getElem_cons_succ, List.getElem_cons_zero, List.setIfInBounds_toArray, List.set_cons_zero, List.set_cons_succ]
    refine wpAnyH_take (i := 12) (v := (.int .i64 l1)) rfl (by kernel_rfl) (by kernel_rfl) (by kernel_rfl) (fun _ _ _ h => h) (Or.inl ⟨by rfl, fun w _ => by simp [go_sem, execOp]⟩) hHeld ?_
    simp only [Act.put, List.getElem_toArray, List.getElem_cons_succ, List.getElem_cons_zero, List.setIfInBounds_toArray, List.set_cons_zero, List.set_cons_succ]
    refine wpAnyH_take (i := 13) (v := (.int .i64 0)) rfl (by kernel_rfl) (by kernel_rfl) (by kernel_rfl) (fun _ _ _ h => h) (Or.inl ⟨by rfl, fun w _ => by simp [go_sem, execOp]⟩) hHeld ?_
    simp only [Act.put, List.getElem_toArray, List.getElem_cons_succ, List.getElem_cons_zero, List.setIfInBounds_toArray, List.set_cons_zero, List.set_cons_succ]
    refine wpAnyH_take (i := 14) (v := (.int .i64 l1)) rfl (by kernel_rfl) (by kernel_rfl) (by kernel_rfl) (fun _ _ _ h => h) (Or.inl ⟨by rfl, fun w _ => by simp [go_sem, execOp]⟩) hHeld ?_
    simp only [Act.put, List.getElem_toArray, List.getElem_cons_succ, List.getElem_cons_zero, List.setIfInBounds_toArray, List.set_cons_zero, List.set_cons_succ]
    refine wpAnyH_take (i := 15) (v := (.int .i64 0)) rfl (by kernel_rfl) (by kernel_rfl) (by kernel_rfl) (fun _ _ _ h => h) (Or.inl ⟨by rfl, fun w _ => by simp [go_sem, execOp]⟩) hHeld ?_
    simp only [Act.put, List.getElem_toArray, List.getElem_cons_succ, List.getElem_cons_zero, List.setIfInBounds_toArray, List.set_cons_zero, List.set_cons_succ]
    refine wpAnyH_done (by kernel_rfl) ?_ _
    clear hrq hrr HUD
    go_wp2_with fail
    go_at_call 55; refine (roll_c A c zs hz 2601 _ HA.out).mono ?_; rintro e w10 ⟨X, rfl, hX, hD, hb10⟩
    go_upto_region 16 with (fail)
    refine wp_region_held_drew (S := fun W => Blk W w1.heap.size 30 #[.int .i64 C.dg, .int .i64 C.tn, .string C.nm, .slice (some ⟨g, 0, none⟩) C.zs.length q, .int .i64 C.wd, .int .i64 C.lf, .int .i64 C.rt] ∧ Prs W (some ⟨bu, ou, none⟩) us ∧ Prs W (some ⟨bv, ov, none⟩) vs) (by kernel_rfl) (⟨(Blk.step hb10 HR.out).drew, (Prs.step hb10 HU.out).drew, (Prs.step hb10 HV.out).drew⟩) (fun hHeld => ?_)
    have hbx := Below.drew hb10
    have hDx := hD.drew
    clear hD hb10
    generalize w10.drew = v11 at hbx hDx hHeld ⊢
    refine wpAnyH_take (i := 0) (v := .agg #[.int .i64 C.dg, .int .i64 C.tn, .string C.nm, .slice (some ⟨g, 0, none⟩) C.zs.length q, .int .i64 C.wd, .int .i64 C.lf, .int .i64 C.rt]) rfl (by kernel_rfl) (by kernel_rfl) (by kernel_rfl) (fun _ _ _ h => h) (yieldsIf_load_blk 30 _ (w1.heap.size) (fun _ h => h.1) Try.underlying30 (by kernel_rfl) (by rfl) rfl rfl) hHeld ?_
    simp only [Act.put, List.getElem_toArray, List.getElem_cons_succ, List.getElem_cons_zero, List.setIfInBounds_toArray, List.set_cons_zero, List.set_cons_succ]
    refine wpAnyH_take (i := 1) (v := (.slice (some ⟨bu, ou, none⟩) us.length cu)) rfl (by kernel_rfl) (by kernel_rfl) (by kernel_rfl) (fun _ _ _ h => h) (Or.inl ⟨by rfl, fun w _ => by simp [go_sem, execOp]⟩) hHeld ?_
    simp only [Act.put, List.getElem_toArray, List.getElem_cons_succ, List.getElem_cons_zero, List.setIfInBounds_toArray, List.set_cons_zero, List.set_cons_succ]
    refine wpAnyH_take (i := 2) (v := (.pointer (some ⟨X, 0, none⟩))) rfl (by kernel_rfl) (by kernel_rfl) (by kernel_rfl) (fun _ _ _ h => h) (Or.inl ⟨by rfl, fun w _ => by simp [go_sem, execOp]⟩) hHeld ?_
    simp only [Act.put, List.getElem_toArray, List.getElem_cons_succ, List.getElem_cons_zero, List.setIfInBounds_toArray, List.set_cons_zero, List.set_cons_succ]
    refine wpAnyH_take (i := 3) (v := (.slice (some ⟨bu, ou, none⟩) us.length cu)) rfl (by kernel_rfl) (by kernel_rfl) (by kernel_rfl) (fun _ _ _ h => h) (Or.inl ⟨by rfl, fun w _ => by simp [go_sem, execOp]⟩) hHeld ?_
    simp only [Act.put, List.getElem_toArray, List.getElem_cons_succ, List.getElem_cons_zero, List.setIfInBounds_toArray, List.set_cons_zero, List.set_cons_succ]
    refine wpAnyH_take (i := 4) (v := (.int .i64 us.length)) rfl (by kernel_rfl) (by kernel_rfl) (by kernel_rfl) (fun _ _ _ h => h) (Or.inl ⟨by rfl, fun w _ => by simp [go_sem, execOp]⟩) hHeld ?_
    simp only [Act.put, List.getElem_toArray, List.getElem_cons_succ, List.getElem_cons_zero, List.setIfInBounds_toArray, List.set_cons_zero, List.set_cons_succ]
    refine wpAnyH_take (i := 8) (v := (.slice (some ⟨bv, ov, none⟩) vs.length cv)) rfl (by kernel_rfl) (by kernel_rfl) (by kernel_rfl) (fun _ _ _ h => h) (Or.inl ⟨by rfl, fun w _ => by simp [go_sem, execOp]⟩) hHeld ?_
    simp only [Act.put, List.getElem_toArray, List.getElem_cons_succ, List.getElem_cons_zero, List.setIfInBounds_toArray, List.set_cons_zero, List.set_cons_succ]
    refine wpAnyH_take (i := 9) (v := (.pointer (some ⟨X, 0, none⟩))) rfl (by kernel_rfl) (by kernel_rfl) (by kernel_rfl) (fun _ _ _ h => h) (Or.inl ⟨by rfl, fun w _ => by simp [go_sem, execOp]⟩) hHeld ?_
    simp only [Act.put, List.getElem_toArray, List.getElem_cons_succ, List.getElem_cons_zero, List.setIfInBounds_toArray, List.set_cons_zero, List.set_cons_succ]
    refine wpAnyH_take (i := 10) (v := (.slice (some ⟨bv, ov, none⟩) vs.length cv)) rfl (by kernel_rfl) (by kernel_rfl) (by kernel_rfl) (fun _ _ _ h => h) (Or.inl ⟨by rfl, fun w _ => by simp [go_sem, execOp]⟩) hHeld ?_
    simp only [Act.put, List.getElem_toArray, List.getElem_cons_succ, List.getElem_cons_zero, List.setIfInBounds_toArray, List.set_cons_zero, List.set_cons_succ]
    refine wpAnyH_take (i := 11) (v := (.int .i64 vs.length)) rfl (by kernel_rfl) (by kernel_rfl) (by kernel_rfl) (fun _ _ _ h => h) (Or.inl ⟨by rfl, fun w _ => by simp [go_sem, execOp]⟩) hHeld ?_
    simp only [Act.put, List.getElem_toArray, List.getElem_cons_succ, List.getElem_cons_zero, List.setIfInBounds_toArray, List.set_cons_zero, List.set_cons_succ]
    refine wpAnyH_take (i := 15) (v := (.int .i64 ey)) rfl (by kernel_rfl) (by kernel_rfl) (by kernel_rfl) (fun _ _ _ h => h) (Or.inl ⟨by rfl, fun w _ => by simp [go_sem, execOp]⟩) hHeld ?_
    simp only [Act.put, List.getElem_toArray, List.getElem_cons_succ, List.getElem_cons_zero, List.setIfInBounds_toArray, List.set_cons_zero, List.set_cons_succ]
    refine wpAnyH_ready (rs := [5]) (by kernel_rfl) (by simp) ?_
    refine AllReadyH.cons rfl (fun K hK => ?_) (AllReadyH.nil)
    go_simp
    go_at_call 56; refine (below_c X A zs us.length (by omega) (by omega) _ hDx).mono ?_; rintro e w12 ⟨du, rfl, hd0, hd1, hD2, hk12⟩
    replace hbx := Kp.bel hk12 hX hbx.size hbx
    clear hDx hk12
    obtain ⟨iu, rfl⟩ : ∃ k : Nat, du = k := ⟨du.toNat, by omega⟩
    have hiu : iu < us.length := by omega
    have hiui : (iu : Int) < us.length := by omega
    obtain ⟨xd, hxd⟩ : ∃ k, k = us[iu].1 := ⟨_, rfl⟩
    obtain ⟨xt, hxt⟩ : ∃ k, k = us[iu].2 := ⟨_, rfl⟩
    have HXD := Lib.hid (And.intro hxd hxt)
    clear hxd hxt
    refine hK.out _ _ (⟨Blk.step hbx HR.out, Prs.step hbx HU.out, Prs.step hbx HV.out⟩) (fun hHeld => ?_)
    clear hK K
    try simp only [Act.put, List.setIfInBounds_toArray, List.set_cons_zero, List.set_cons_succ]
    refine wpAnyH_take (i := 6) (v := (.pointer (some ⟨bu, ou + iu * 2, none⟩))) rfl (by kernel_rfl) (by kernel_rfl) (by kernel_rfl) (fun _ _ _ h => h) (Or.inl ⟨by rfl, fun w' h => by simp [go_sem, execOp, hiui, hiu]⟩) hHeld ?_
    simp only [Act.put, List.getElem_toArray, List.getElem_cons_succ, List.getElem_cons_zero, List.setIfInBounds_toArray, List.set_cons_zero, List.set_cons_succ]
    refine wpAnyH_take (i := 7) (v := (.agg #[.int .i64 xd, .int .i64 xt])) rfl (by kernel_rfl) (by kernel_rfl) (by kernel_rfl) (fun _ _ _ h => h) (Or.inl ⟨by rfl, fun w' h => by obtain ⟨b', o', e', _, q0, q1⟩ := h.2.1.at_ iu hiu; injection e' with e'; injection e' with e1 e2; subst e1 e2; rw [← HXD.out.1] at q0; rw [← HXD.out.2] at q1; simp [go_sem, execOp, q0, q1]⟩) hHeld ?_
    simp only [Act.put, List.getElem_toArray, List.getElem_cons_succ, List.getElem_cons_zero, List.setIfInBounds_toArray, List.set_cons_zero, List.set_cons_succ]
    refine wpAnyH_ready (rs := [12]) (by kernel_rfl) (by simp) ?_
    refine AllReadyH.cons rfl (fun K hK => ?_) (AllReadyH.nil)
    go_simp
    go_at_call 56; refine (below_c X A zs vs.length (by omega) (by omega) _ hD2).mono ?_; rintro e w13 ⟨dv, rfl, hd2, hd3, hD3, hk13⟩
    replace hbx := Kp.bel hk13 hX hbx.size hbx
    clear hD2 hD3 hk13
    obtain ⟨kv, rfl⟩ : ∃ k : Nat, dv = k := ⟨dv.toNat, by omega⟩
    have hkv : kv < vs.length := by omega
    have hkvi : (kv : Int) < vs.length := by omega
    obtain ⟨yd, hyd⟩ : ∃ k, k = vs[kv].1 := ⟨_, rfl⟩
    obtain ⟨yt, hyt⟩ : ∃ k, k = vs[kv].2 := ⟨_, rfl⟩
    have HYD := Lib.hid (And.intro hyd hyt)
    clear hyd hyt
    refine hK.out _ _ (⟨Blk.step hbx HR.out, Prs.step hbx HU.out, Prs.step hbx HV.out⟩) (fun hHeld => ?_)
    clear hK K
    try simp only [Act.put, List.setIfInBounds_toArray, List.set_cons_zero, List.set_cons_succ]
    refine wpAnyH_take (i := 13) (v := (.pointer (some ⟨bv, ov + kv * 2, none⟩))) rfl (by kernel_rfl) (by kernel_rfl) (by kernel_rfl) (fun _ _ _ h => h) (Or.inl ⟨by rfl, fun w' h => by simp [go_sem, execOp, hkvi, hkv]⟩) hHeld ?_
    simp only [Act.put, List.getElem_toArray, List.getElem_cons_succ, List.getElem_cons_zero, List.setIfInBounds_toArray, List.set_cons_zero, List.set_cons_succ]
    refine wpAnyH_take (i := 14) (v := (.agg #[.int .i64 yd, .int .i64 yt])) rfl (by kernel_rfl) (by kernel_rfl) (by kernel_rfl) (fun _ _ _ h => h) (Or.inl ⟨by rfl, fun w' h => by obtain ⟨b', o', e', _, q0, q1⟩ := h.2.2.at_ kv hkv; injection e' with e'; injection e' with e1 e2; subst e1 e2; rw [← HYD.out.1] at q0; rw [← HYD.out.2] at q1; simp [go_sem, execOp, q0, q1]⟩) hHeld ?_
    simp only [Act.put, List.getElem_toArray, List.getElem_cons_succ, List.getElem_cons_zero, List.setIfInBounds_toArray, List.set_cons_zero, List.set_cons_succ]
    obtain ⟨r1, r2⟩ := HALL.out iu kv hiu hkv
    rw [← HXD.out.1, ← HXD.out.2, ← HYD.out.1, ← HYD.out.2] at r1 r2
    refine wpAnyH_ready (rs := [16]) (by kernel_rfl) (by simp) ?_
    refine AllReadyH.cons rfl (fun K hK => ?_) (AllReadyH.nil)
    go_simp
    go_at_call 66; refine (ReadingError_I C (some ⟨g, 0, none⟩) q xd xt yd yt ey hn hm _ (Ints.step hbx HI.out)).mono ?_; rintro e w17 ⟨rfl, hb17⟩
    replace hbx := Bel.step hb17 hbx
    rw [r1]
    generalize rrV C xd xt yd yt ey = rx at r2 ⊢
    refine hK.out _ _ (⟨Blk.step hbx HR.out, Prs.step hbx HU.out, Prs.step hbx HV.out⟩) (fun hHeld => ?_)
    clear hK K
    try simp only [Act.put, List.setIfInBounds_toArray, List.set_cons_zero, List.set_cons_succ]
    refine wpAnyH_take (i := 17) (v := (.tuple #[.int .i64 rx, .int .i64 0])) rfl (by kernel_rfl) (by kernel_rfl) (by kernel_rfl) (fun _ _ _ h => h) (Or.inl ⟨by rfl, fun w _ => by simp [go_sem, execOp]⟩) hHeld ?_
    simp only [Act.put, List.getElem_toArray, List.getElem_cons_succ, List.getElem_cons_zero, List.setIfInBounds_toArray, List.set_cons_zero, List.set_cons_succ]
    refine wpAnyH_take (i := 18) (v := (.int .i64 rx)) rfl (by kernel_rfl) (by kernel_rfl) (by kernel_rfl) (fun _ _ _ h => h) (Or.inl ⟨by rfl, fun w _ => by simp [go_sem, execOp]⟩) hHeld ?_
    simp only [Act.put, List.getElem_toArray, List.getElem_cons_succ, List.getElem_cons_zero, List.setIfInBounds_toArray, List.set_cons_zero, List.set_cons_succ]
    refine wpAnyH_take (i := 19) (v := (.int .i64 0)) rfl (by kernel_rfl) (by kernel_rfl) (by kernel_rfl) (fun _ _ _ h => h) (Or.inl ⟨by rfl, fun w _ => by simp [go_sem, execOp]⟩) hHeld ?_
    simp only [Act.put, List.getElem_toArray, List.getElem_cons_succ, List.getElem_cons_zero, List.setIfInBounds_toArray, List.set_cons_zero, List.set_cons_succ]
    refine wpAnyH_take (i := 20) (v := (.int .i64 rx)) rfl (by kernel_rfl) (by kernel_rfl) (by kernel_rfl) (fun _ _ _ h => h) (Or.inl ⟨by rfl, fun w _ => by simp [go_sem, execOp]⟩) hHeld ?_
    simp only [Act.put, List.getElem_toArray, List.getElem_cons_succ, List.getElem_cons_zero, List.setIfInBounds_toArray, List.set_cons_zero, List.set_cons_succ]
    refine wpAnyH_take (i := 21) (v := (.int .i64 0)) rfl (by kernel_rfl) (by kernel_rfl) (by kernel_rfl) (fun _ _ _ h => h) (Or.inl ⟨by rfl, fun w _ => by simp [go_sem, execOp]⟩) hHeld ?_
    simp only [Act.put, List.getElem_toArray, List.getElem_cons_succ, List.getElem_cons_zero, List.setIfInBounds_toArray, List.set_cons_zero, List.set_cons_succ]
    refine wpAnyH_done (by kernel_rfl) ?_ _
    replace HR := Lib.hid (Blk.step hbx HR.out)
    replace HI := Lib.hid (Ints.step hbx HI.out)
    replace HU := Lib.hid (Prs.step hbx HU.out)
    replace HV := Lib.hid (Prs.step hbx HV.out)
    replace HB := Lib.hid (Bel.step hbx HB.out)
    clear hb17 hbx HXD HYD
    go_wp2_with (first | (refine wpList_load_blkG 30 _ _ (Blk.step (Bel.ka0 HB.out (by repeat (with_reducible first | exact Below.refl _ _ | refine Bel.alloc ?_ _ | refine Below.drew ?_ | refine Bel.drewN ?_ _))) HR.out) Try.underlying30 (by kernel_rfl) rfl rfl (by rfl) ?_))
    go_at_call 60; refine (LayoutError_I C (some ⟨g, 0, none⟩) q (some ⟨bu, ou, none⟩) cu us (some ⟨bv, ov, none⟩) cv vs 0 hn hm hun hvn _ (by repeat (with_reducible first | exact HI.out | assumption | refine Ints.drew ?_ | refine Ints.drewN _ ?_ | refine Ints.alloc _ ?_ | refine Ints.step (by assumption) ?_)) (by repeat (with_reducible first | exact HU.out | assumption | refine Prs.drew ?_ | refine Prs.drewN _ ?_ | refine Prs.alloc _ ?_ | refine Prs.step (by assumption) ?_)) (by repeat (with_reducible first | exact HV.out | assumption | refine Prs.drew ?_ | refine Prs.drewN _ ?_ | refine Prs.alloc _ ?_ | refine Prs.step (by assumption) ?_))).mono ?_; rintro e w20 ⟨rfl, hb20⟩; have hka := Bel.ka HB.out hb20 (by repeat (with_reducible first | exact Below.refl _ _ | refine Bel.alloc ?_ _ | refine Below.drew ?_ | refine Bel.drewN ?_ _)); (try (replace HR := Lib.hid (Blk.step hb20 (Blk.step hka HR.out)))); replace HB := Lib.hid (Bel.step hb20 (Bel.step hka HB.out)); have hsz20 := hb20.size; have hsy20 := hka.size; (try simp only [World.size_alloc, World.size_drew, World.heap_drewN, World.size_setCell] at hsz20 hsy20); clear hka hb20
    rw [hz0]
    generalize (leV C us vs 0).1 = lz at hz1 ⊢
    go_wp2
    go_ret
    exact ⟨rfl, HB.out⟩
  · skip
    go_upto_region 14 with (fail)
    refine wp_region_held_drew (S := fun W => Blk W w1.heap.size 30 #[.int .i64 C.dg, .int .i64 C.tn, .string C.nm, .slice (some ⟨g, 0, none⟩) C.zs.length q, .int .i64 C.wd, .int .i64 C.lf, .int .i64 C.rt] ∧ Prs W (some ⟨bu, ou, none⟩) us ∧ Prs W (some ⟨bv, ov, none⟩) vs) (by kernel_rfl) (⟨HR.out.drew, HU.out.drew, HV.out.drew⟩) (fun hHeld => ?_)
    replace HR := Lib.hid HR.out.drew
    replace HI := Lib.hid HI.out.drew
    replace HU := Lib.hid HU.out.drew
    replace HV := Lib.hid HV.out.drew
    replace HA := Lib.hid (Byts.step (Below.drew (Below.refl _ _)) HA.out)
    replace HB := Lib.hid (Below.drew HB.out)
    generalize w7.drew = v8 at HR HI HU HV HA HB hHeld ⊢
    refine wpAnyH_take (i := 0) (v := .agg #[.int .i64 C.dg, .int .i64 C.tn, .string C.nm, .slice (some ⟨g, 0, none⟩) C.zs.length q, .int .i64 C.wd, .int .i64 C.lf, .int .i64 C.rt]) rfl (by kernel_rfl) (by kernel_rfl) (by kernel_rfl) (fun _ _ _ h => h) (yieldsIf_load_blk 30 _ (w1.heap.size) (fun _ h => h.1) Try.underlying30 (by kernel_rfl) (by rfl) rfl rfl) hHeld ?_
    simp only [Act.put, List.getElem_toArray, List.getElem_cons_succ, List.getElem_cons_zero, List.setIfInBounds_toArray, List.set_cons_zero, List.set_cons_succ]
    refine wpAnyH_take (i := 1) (v := (.slice (some ⟨bu, ou, none⟩) us.length cu)) rfl (by kernel_rfl) (by kernel_rfl) (by kernel_rfl) (fun _ _ _ h => h) (Or.inl ⟨by rfl, fun w _ => by simp [go_sem, execOp]⟩) hHeld ?_
    simp only [Act.put, List.getElem_toArray, List.getElem_cons_succ, List.getElem_cons_zero, List.setIfInBounds_toArray, List.set_cons_zero, List.set_cons_succ]
    refine wpAnyH_take (i := 2) (v := (.int .i64 i0)) rfl (by kernel_rfl) (by kernel_rfl) (by kernel_rfl) (fun _ _ _ h => h) (Or.inl ⟨by rfl, fun w _ => by simp [go_sem, execOp]⟩) hHeld ?_
    simp only [Act.put, List.getElem_toArray, List.getElem_cons_succ, List.getElem_cons_zero, List.setIfInBounds_toArray, List.set_cons_zero, List.set_cons_succ]
    refine wpAnyH_take (i := 3) (v := (.pointer (some ⟨bu, ou + i0 * 2, none⟩))) rfl (by kernel_rfl) (by kernel_rfl) (by kernel_rfl) (fun _ _ _ h => h) (Or.inl ⟨by rfl, fun w' h => by simp [go_sem, execOp, hi0i, hi0]⟩) hHeld ?_
    simp only [Act.put, List.getElem_toArray, List.getElem_cons_succ, List.getElem_cons_zero, List.setIfInBounds_toArray, List.set_cons_zero, List.set_cons_succ]
    refine wpAnyH_take (i := 4) (v := (.agg #[.int .i64 ud, .int .i64 ut])) rfl (by kernel_rfl) (by kernel_rfl) (by kernel_rfl) (fun _ _ _ h => h) (Or.inl ⟨by rfl, fun w' h => by obtain ⟨b', o', e', _, q0, q1⟩ := h.2.1.at_ i0 hi0; injection e' with e'; injection e' with e1 e2; subst e1 e2; rw [← HUD.out.1] at q0; rw [← HUD.out.2.1] at q1; simp [go_sem, execOp, q0, q1]⟩) hHeld ?_
    simp only [Act.put, List.getElem_toArray, List.getElem_cons_succ, List.getElem_cons_zero, List.setIfInBounds_toArray, List.set_cons_zero, List.set_cons_succ]
    refine wpAnyH_take (i := 5) (v := (.slice (some ⟨bv, ov, none⟩) vs.length cv)) rfl (by kernel_rfl) (by kernel_rfl) (by kernel_rfl) (fun _ _ _ h => h) (Or.inl ⟨by rfl, fun w _ => by simp [go_sem, execOp]⟩) hHeld ?_
    simp only [Act.put, List.getElem_toArray, List.getElem_cons_succ, List.getElem_cons_zero, List.setIfInBounds_toArray, List.set_cons_zero, List.set_cons_succ]
    refine wpAnyH_take (i := 6) (v := (.int .i64 k0)) rfl (by kernel_rfl) (by kernel_rfl) (by kernel_rfl) (fun _ _ _ h => h) (Or.inl ⟨by rfl, fun w _ => by simp [go_sem, execOp]⟩) hHeld ?_
    simp only [Act.put, List.getElem_toArray, List.getElem_cons_succ, List.getElem_cons_zero, List.setIfInBounds_toArray, List.set_cons_zero, List.set_cons_succ]
    refine wpAnyH_take (i := 7) (v := (.pointer (some ⟨bv, ov + k0 * 2, none⟩))) rfl (by kernel_rfl) (by kernel_rfl) (by kernel_rfl) (fun _ _ _ h => h) (Or.inl ⟨by rfl, fun w' h => by simp [go_sem, execOp, hk0i, hk0]⟩) hHeld ?_
    simp only [Act.put, List.getElem_toArray, List.getElem_cons_succ, List.getElem_cons_zero, List.setIfInBounds_toArray, List.set_cons_zero, List.set_cons_succ]
    refine wpAnyH_take (i := 8) (v := (.agg #[.int .i64 vd, .int .i64 vt])) rfl (by kernel_rfl) (by kernel_rfl) (by kernel_rfl) (fun _ _ _ h => h) (Or.inl ⟨by rfl, fun w' h => by obtain ⟨b', o', e', _, q0, q1⟩ := h.2.2.at_ k0 hk0; injection e' with e'; injection e' with e1 e2; subst e1 e2; rw [← HUD.out.2.2.1] at q0; rw [← HUD.out.2.2.2] at q1; simp [go_sem, execOp, q0, q1]⟩) hHeld ?_
    simp only [Act.put, List.getElem_toArray, List.getElem_cons_succ, List.getElem_cons_zero, List.setIfInBounds_toArray, List.set_cons_zero, List.set_cons_succ]
    refine wpAnyH_take (i := 9) (v := (.int .i64 ey)) rfl (by kernel_rfl) (by kernel_rfl) (by kernel_rfl) (fun _ _ _ h => h) (Or.inl ⟨by rfl, fun w _ => by simp [go_sem, execOp]⟩) hHeld ?_
    simp only [Act.put, List.getElem_toArray, List.getElem_cons_succ, List.getElem_cons_zero, List.setIfInBounds_toArray, List.set_cons_zero, List.set_cons_succ]
    refine wpAnyH_ready (rs := [10]) (by kernel_rfl) (by simp) ?_
    refine AllReadyH.cons rfl (fun K hK => ?_) (AllReadyH.nil)
    go_simp
    go_at_call 66; refine (ReadingError_I C (some ⟨g, 0, none⟩) q ud ut vd vt ey hn hm _ (by repeat (with_reducible first | exact HI.out | assumption | refine Ints.drew ?_ | refine Ints.drewN _ ?_ | refine Ints.alloc _ ?_ | refine Ints.step (by assumption) ?_))).mono ?_; rintro e w9 ⟨rfl, hb9⟩; have hka := Bel.ka HB.out hb9 (by repeat (with_reducible first | exact Below.refl _ _ | refine Bel.alloc ?_ _ | refine Below.drew ?_ | refine Bel.drewN ?_ _)); (try (replace HR := Lib.hid (Blk.step hb9 (Blk.step hka HR.out)))); (try (replace HI := Lib.hid (Ints.step hb9 (Ints.step hka HI.out)))); (try (replace HU := Lib.hid (Prs.step hb9 (Prs.step hka HU.out)))); (try (replace HV := Lib.hid (Prs.step hb9 (Prs.step hka HV.out)))); (try (replace HA := Lib.hid (Byts.step hb9 (Byts.step hka HA.out)))); replace HB := Lib.hid (Bel.step hb9 (Bel.step hka HB.out)); have hsz9 := hb9.size; have hsy9 := hka.size; (try simp only [World.size_alloc, World.size_drew, World.heap_drewN, World.size_setCell] at hsz9 hsy9); clear hka hb9
    rw [hrq, hrr]
    refine hK.out _ _ (⟨HR.out, HU.out, HV.out⟩) (fun hHeld => ?_)
    clear hK K
    try simp only [Act.put, List.setIfInBounds_toArray, List.set_cons_zero, List.set_cons_succ]
    refine wpAnyH_take (i := 11) (v := (.tuple #[.int .i64 l1, .int .i64 0])) rfl (by kernel_rfl) (by kernel_rfl) (by kernel_rfl) (fun _ _ _ h => h) (Or.inl ⟨by rfl, fun w _ => by simp [go_sem, execOp]⟩) hHeld ?_
    simp only [Act.put, List.getElem_toArray, List.getElem_cons_succ, List.getElem_cons_zero, List.setIfInBounds_toArray, List.set_cons_zero, List.set_cons_succ]
    refine wpAnyH_take (i := 12) (v := (.int .i64 l1)) rfl (by kernel_rfl) (by kernel_rfl) (by kernel_rfl) (fun _ _ _ h => h) (Or.inl ⟨by rfl, fun w _ => by simp [go_sem, execOp]⟩) hHeld ?_
    simp only [Act.put, List.getElem_toArray, List.getElem_cons_succ, List.getElem_cons_zero, List.setIfInBounds_toArray, List.set_cons_zero, List.set_cons_succ]
    refine wpAnyH_take (i := 13) (v := (.int .i64 0)) rfl (by kernel_rfl) (by kernel_rfl) (by kernel_rfl) (fun _ _ _ h => h) (Or.inl ⟨by rfl, fun w _ => by simp [go_sem, execOp]⟩) hHeld ?_
    simp only [Act.put, List.getElem_toArray, List.getElem_cons_succ, List.getElem_cons_zero, List.setIfInBounds_toArray, List.set_cons_zero, List.set_cons_succ]
    refine wpAnyH_take (i := 14) (v := (.int .i64 l1)) rfl (by kernel_rfl) (by kernel_rfl) (by kernel_rfl) (fun _ _ _ h => h) (Or.inl ⟨by rfl, fun w _ => by simp [go_sem, execOp]⟩) hHeld ?_
    simp only [Act.put, List.getElem_toArray, List.getElem_cons_succ, List.getElem_cons_zero, List.setIfInBounds_toArray, List.set_cons_zero, List.set_cons_succ]
    refine wpAnyH_take (i := 15) (v := (.int .i64 0)) rfl (by kernel_rfl) (by kernel_rfl) (by kernel_rfl) (fun _ _ _ h => h) (Or.inl ⟨by rfl, fun w _ => by simp [go_sem, execOp]⟩) hHeld ?_
    simp only [Act.put, List.getElem_toArray, List.getElem_cons_succ, List.getElem_cons_zero, List.setIfInBounds_toArray, List.set_cons_zero, List.set_cons_succ]
    refine wpAnyH_done (by kernel_rfl) ?_ _
    clear hrq hrr HUD
    go_wp2_with fail
    go_at_call 55; refine (roll_c A c zs hz 2601 _ HA.out).mono ?_; rintro e w10 ⟨X, rfl, hX, hD, hb10⟩
    go_upto_region 16 with (fail)
    refine wp_region_held_drew (S := fun W => Blk W w1.heap.size 30 #[.int .i64 C.dg, .int .i64 C.tn, .string C.nm, .slice (some ⟨g, 0, none⟩) C.zs.length q, .int .i64 C.wd, .int .i64 C.lf, .int .i64 C.rt] ∧ Prs W (some ⟨bu, ou, none⟩) us ∧ Prs W (some ⟨bv, ov, none⟩) vs) (by kernel_rfl) (⟨(Blk.step hb10 HR.out).drew, (Prs.step hb10 HU.out).drew, (Prs.step hb10 HV.out).drew⟩) (fun hHeld => ?_)
    have hbx := Below.drew hb10
    have hDx := hD.drew
    clear hD hb10
    generalize w10.drew = v11 at hbx hDx hHeld ⊢
    refine wpAnyH_take (i := 0) (v := .agg #[.int .i64 C.dg, .int .i64 C.tn, .string C.nm, .slice (some ⟨g, 0, none⟩) C.zs.length q, .int .i64 C.wd, .int .i64 C.lf, .int .i64 C.rt]) rfl (by kernel_rfl) (by kernel_rfl) (by kernel_rfl) (fun _ _ _ h => h) (yieldsIf_load_blk 30 _ (w1.heap.size) (fun _ h => h.1) Try.underlying30 (by kernel_rfl) (by rfl) rfl rfl) hHeld ?_
    simp only [Act.put, List.getElem_toArray, List.getElem_cons_succ, List.getElem_cons_zero, List.setIfInBounds_toArray, List.set_cons_zero, List.set_cons_succ]
    refine wpAnyH_take (i := 1) (v := (.slice (some ⟨bu, ou, none⟩) us.length cu)) rfl (by kernel_rfl) (by kernel_rfl) (by kernel_rfl) (fun _ _ _ h => h) (Or.inl ⟨by rfl, fun w _ => by simp [go_sem, execOp]⟩) hHeld ?_
    simp only [Act.put, List.getElem_toArray, List.getElem_cons_succ, List.getElem_cons_zero, List.setIfInBounds_toArray, List.set_cons_zero, List.set_cons_succ]
    refine wpAnyH_take (i := 2) (v := (.pointer (some ⟨X, 0, none⟩))) rfl (by kernel_rfl) (by kernel_rfl) (by kernel_rfl) (fun _ _ _ h => h) (Or.inl ⟨by rfl, fun w _ => by simp [go_sem, execOp]⟩) hHeld ?_
    simp only [Act.put, List.getElem_toArray, List.getElem_cons_succ, List.getElem_cons_zero, List.setIfInBounds_toArray, List.set_cons_zero, List.set_cons_succ]
    refine wpAnyH_take (i := 3) (v := (.slice (some ⟨bu, ou, none⟩) us.length cu)) rfl (by kernel_rfl) (by kernel_rfl) (by kernel_rfl) (fun _ _ _ h => h) (Or.inl ⟨by rfl, fun w _ => by simp [go_sem, execOp]⟩) hHeld ?_
    simp only [Act.put, List.getElem_toArray, List.getElem_cons_succ, List.getElem_cons_zero, List.setIfInBounds_toArray, List.set_cons_zero, List.set_cons_succ]
    refine wpAnyH_take (i := 4) (v := (.int .i64 us.length)) rfl (by kernel_rfl) (by kernel_rfl) (by kernel_rfl) (fun _ _ _ h => h) (Or.inl ⟨by rfl, fun w _ => by simp [go_sem, execOp]⟩) hHeld ?_
    simp only [Act.put, List.getElem_toArray, List.getElem_cons_succ, List.getElem_cons_zero, List.setIfInBounds_toArray, List.set_cons_zero, List.set_cons_succ]
    refine wpAnyH_take (i := 8) (v := (.slice (some ⟨bv, ov, none⟩) vs.length cv)) rfl (by kernel_rfl) (by kernel_rfl) (by kernel_rfl) (fun _ _ _ h => h) (Or.inl ⟨by rfl, fun w _ => by simp [go_sem, execOp]⟩) hHeld ?_
    simp only [Act.put, List.getElem_toArray, List.getElem_cons_succ, List.getElem_cons_zero, List.setIfInBounds_toArray, List.set_cons_zero, List.set_cons_succ]
    refine wpAnyH_take (i := 9) (v := (.pointer (some ⟨X, 0, none⟩))) rfl (by kernel_rfl) (by kernel_rfl) (by kernel_rfl) (fun _ _ _ h => h) (Or.inl ⟨by rfl, fun w _ => by simp [go_sem, execOp]⟩) hHeld ?_
    simp only [Act.put, List.getElem_toArray, List.getElem_cons_succ, List.getElem_cons_zero, List.setIfInBounds_toArray, List.set_cons_zero, List.set_cons_succ]
    refine wpAnyH_take (i := 10) (v := (.slice (some ⟨bv, ov, none⟩) vs.length cv)) rfl (by kernel_rfl) (by kernel_rfl) (by kernel_rfl) (fun _ _ _ h => h) (Or.inl ⟨by rfl, fun w _ => by simp [go_sem, execOp]⟩) hHeld ?_
    simp only [Act.put, List.getElem_toArray, List.getElem_cons_succ, List.getElem_cons_zero, List.setIfInBounds_toArray, List.set_cons_zero, List.set_cons_succ]
    refine wpAnyH_take (i := 11) (v := (.int .i64 vs.length)) rfl (by kernel_rfl) (by kernel_rfl) (by kernel_rfl) (fun _ _ _ h => h) (Or.inl ⟨by rfl, fun w _ => by simp [go_sem, execOp]⟩) hHeld ?_
    simp only [Act.put, List.getElem_toArray, List.getElem_cons_succ, List.getElem_cons_zero, List.setIfInBounds_toArray, List.set_cons_zero, List.set_cons_succ]
    refine wpAnyH_take (i := 15) (v := (.int .i64 ey)) rfl (by kernel_rfl) (by kernel_rfl) (by kernel_rfl) (fun _ _ _ h => h) (Or.inl ⟨by rfl, fun w _ => by simp [go_sem, execOp]⟩) hHeld ?_
    simp only [Act.put, List.getElem_toArray, List.getElem_cons_succ, List.getElem_cons_zero, List.setIfInBounds_toArray, List.set_cons_zero, List.set_cons_succ]
    refine wpAnyH_ready (rs := [5]) (by kernel_rfl) (by simp) ?_
    refine AllReadyH.cons rfl (fun K hK => ?_) (AllReadyH.nil)
    go_simp
    go_at_call 56; refine (below_c X A zs us.length (by omega) (by omega) _ hDx).mono ?_; rintro e w12 ⟨du, rfl, hd0, hd1, hD2, hk12⟩
    replace hbx := Kp.bel hk12 hX hbx.size hbx
    clear hDx hk12
    obtain ⟨iu, rfl⟩ : ∃ k : Nat, du = k := ⟨du.toNat, by omega⟩
    have hiu : iu < us.length := by omega
    have hiui : (iu : Int) < us.length := by omega
    obtain ⟨xd, hxd⟩ : ∃ k, k = us[iu].1 := ⟨_, rfl⟩
    obtain ⟨xt, hxt⟩ : ∃ k, k = us[iu].2 := ⟨_, rfl⟩
    have HXD := Lib.hid (And.intro hxd hxt)
    clear hxd hxt
    refine hK.out _ _ (⟨Blk.step hbx HR.out, Prs.step hbx HU.out, Prs.step hbx HV.out⟩) (fun hHeld => ?_)
    clear hK K
    try simp only [Act.put, List.setIfInBounds_toArray, List.set_cons_zero, List.set_cons_succ]
    refine wpAnyH_take (i := 6) (v := (.pointer (some ⟨bu, ou + iu * 2, none⟩))) rfl (by kernel_rfl) (by kernel_rfl) (by kernel_rfl) (fun _ _ _ h => h) (Or.inl ⟨by rfl, fun w' h => by simp [go_sem, execOp, hiui, hiu]⟩) hHeld ?_
    simp only [Act.put, List.getElem_toArray, List.getElem_cons_succ, List.getElem_cons_zero, List.setIfInBounds_toArray, List.set_cons_zero, List.set_cons_succ]
    refine wpAnyH_take (i := 7) (v := (.agg #[.int .i64 xd, .int .i64 xt])) rfl (by kernel_rfl) (by kernel_rfl) (by kernel_rfl) (fun _ _ _ h => h) (Or.inl ⟨by rfl, fun w' h => by obtain ⟨b', o', e', _, q0, q1⟩ := h.2.1.at_ iu hiu; injection e' with e'; injection e' with e1 e2; subst e1 e2; rw [← HXD.out.1] at q0; rw [← HXD.out.2] at q1; simp [go_sem, execOp, q0, q1]⟩) hHeld ?_
    simp only [Act.put, List.getElem_toArray, List.getElem_cons_succ, List.getElem_cons_zero, List.setIfInBounds_toArray, List.set_cons_zero, List.set_cons_succ]
    refine wpAnyH_ready (rs := [12]) (by kernel_rfl) (by simp) ?_
    refine AllReadyH.cons rfl (fun K hK => ?_) (AllReadyH.nil)
    go_simp
    go_at_call 56; refine (below_c X A zs vs.length (by omega) (by omega) _ hD2).mono ?_; rintro e w13 ⟨dv, rfl, hd2, hd3, hD3, hk13⟩
    replace hbx := Kp.bel hk13 hX hbx.size hbx
    clear hD2 hD3 hk13
    obtain ⟨kv, rfl⟩ : ∃ k : Nat, dv = k := ⟨dv.toNat, by omega⟩
    have hkv : kv < vs.length := by omega
    have hkvi : (kv : Int) < vs.length := by omega
    obtain ⟨yd, hyd⟩ : ∃ k, k = vs[kv].1 := ⟨_, rfl⟩
    obtain ⟨yt, hyt⟩ : ∃ k, k = vs[kv].2 := ⟨_, rfl⟩
    have HYD := Lib.hid (And.intro hyd hyt)
    clear hyd hyt
    refine hK.out _ _ (⟨Blk.step hbx HR.out, Prs.step hbx HU.out, Prs.step hbx HV.out⟩) (fun hHeld => ?_)
    clear hK K
    try simp only [Act.put, List.setIfInBounds_toArray, List.set_cons_zero, List.set_cons_succ]
    refine wpAnyH_take (i := 13) (v := (.pointer (some ⟨bv, ov + kv * 2, none⟩))) rfl (by kernel_rfl) (by kernel_rfl) (by kernel_rfl) (fun _ _ _ h => h) (Or.inl ⟨by rfl, fun w' h => by simp [go_sem, execOp, hkvi, hkv]⟩) hHeld ?_
    simp only [Act.put, List.getElem_toArray, List.getElem_cons_succ, List.getElem_cons_zero, List.setIfInBounds_toArray, List.set_cons_zero, List.set_cons_succ]
    refine wpAnyH_take (i := 14) (v := (.agg #[.int .i64 yd, .int .i64 yt])) rfl (by kernel_rfl) (by kernel_rfl) (by kernel_rfl) (fun _ _ _ h => h) (Or.inl ⟨by rfl, fun w' h => by obtain ⟨b', o', e', _, q0, q1⟩ := h.2.2.at_ kv hkv; injection e' with e'; injection e' with e1 e2; subst e1 e2; rw [← HYD.out.1] at q0; rw [← HYD.out.2] at q1; simp [go_sem, execOp, q0, q1]⟩) hHeld ?_
    simp only [Act.put, List.getElem_toArray, List.getElem_cons_succ, List.getElem_cons_zero, List.setIfInBounds_toArray, List.set_cons_zero, List.set_cons_succ]
    obtain ⟨r1, r2⟩ := HALL.out iu kv hiu hkv
    rw [← HXD.out.1, ← HXD.out.2, ← HYD.out.1, ← HYD.out.2] at r1 r2
    refine wpAnyH_ready (rs := [16]) (by kernel_rfl) (by simp) ?_
    refine AllReadyH.cons rfl (fun K hK => ?_) (AllReadyH.nil)
    go_simp
    go_at_call 66; refine (ReadingError_I C (some ⟨g, 0, none⟩) q xd xt yd yt ey hn hm _ (Ints.step hbx HI.out)).mono ?_; rintro e w17 ⟨rfl, hb17⟩
    replace hbx := Bel.step hb17 hbx
    rw [r1]
    generalize rrV C xd xt yd yt ey = rx at r2 ⊢
    refine hK.out _ _ (⟨Blk.step hbx HR.out, Prs.step hbx HU.out, Prs.step hbx HV.out⟩) (fun hHeld => ?_)
    clear hK K
    try simp only [Act.put, List.setIfInBounds_toArray, List.set_cons_zero, List.set_cons_succ]
    refine wpAnyH_take (i := 17) (v := (.tuple #[.int .i64 rx, .int .i64 0])) rfl (by kernel_rfl) (by kernel_rfl) (by kernel_rfl) (fun _ _ _ h => h) (Or.inl ⟨by rfl, fun w _ => by simp [go_sem, execOp]⟩) hHeld ?_
    simp only [Act.put, List.getElem_toArray, List.getElem_cons_succ, List.getElem_cons_zero, List.setIfInBounds_toArray, List.set_cons_zero, List.set_cons_succ]
    refine wpAnyH_take (i := 18) (v := (.int .i64 rx)) rfl (by kernel_rfl) (by kernel_rfl) (by kernel_rfl) (fun _ _ _ h => h) (Or.inl ⟨by rfl, fun w _ => by simp [go_sem, execOp]⟩) hHeld ?_
    simp only [Act.put, List.getElem_toArray, List.getElem_cons_succ, List.getElem_cons_zero, List.setIfInBounds_toArray, List.set_cons_zero, List.set_cons_succ]
    refine wpAnyH_take (i := 19) (v := (.int .i64 0)) rfl (by kernel_rfl) (by kernel_rfl) (by kernel_rfl) (fun _ _ _ h => h) (Or.inl ⟨by rfl, fun w _ => by simp [go_sem, execOp]⟩) hHeld ?_
    simp only [Act.put, List.getElem_toArray, List.getElem_cons_succ, List.getElem_cons_zero, List.setIfInBounds_toArray, List.set_cons_zero, List.set_cons_succ]
    refine wpAnyH_take (i := 20) (v := (.int .i64 rx)) rfl (by kernel_rfl) (by kernel_rfl) (by kernel_rfl) (fun _ _ _ h => h) (Or.inl ⟨by rfl, fun w _ => by simp [go_sem, execOp]⟩) hHeld ?_
    simp only [Act.put, List.getElem_toArray, List.getElem_cons_succ, List.getElem_cons_zero, List.setIfInBounds_toArray, List.set_cons_zero, List.set_cons_succ]
    refine wpAnyH_take (i := 21) (v := (.int .i64 0)) rfl (by kernel_rfl) (by kernel_rfl) (by kernel_rfl) (fun _ _ _ h => h) (Or.inl ⟨by rfl, fun w _ => by simp [go_sem, execOp]⟩) hHeld ?_
    simp only [Act.put, List.getElem_toArray, List.getElem_cons_succ, List.getElem_cons_zero, List.setIfInBounds_toArray, List.set_cons_zero, List.set_cons_succ]
    refine wpAnyH_done (by kernel_rfl) ?_ _
    replace HR := Lib.hid (Blk.step hbx HR.out)
    replace HI := Lib.hid (Ints.step hbx HI.out)
    replace HU := Lib.hid (Prs.step hbx HU.out)
    replace HV := Lib.hid (Prs.step hbx HV.out)
    replace HB := Lib.hid (Bel.step hbx HB.out)
    clear hb17 hbx HXD HYD
    go_wp2_with (first | (refine wpList_load_blkG 30 _ _ (Blk.step (Bel.ka0 HB.out (by repeat (with_reducible first | exact Below.refl _ _ | refine Bel.alloc ?_ _ | refine Below.drew ?_ | refine Bel.drewN ?_ _))) HR.out) Try.underlying30 (by kernel_rfl) rfl rfl (by rfl) ?_))
    go_at_call 60; refine (LayoutError_I C (some ⟨g, 0, none⟩) q (some ⟨bu, ou, none⟩) cu us (some ⟨bv, ov, none⟩) cv vs 0 hn hm hun hvn _ (by repeat (with_reducible first | exact HI.out | assumption | refine Ints.drew ?_ | refine Ints.drewN _ ?_ | refine Ints.alloc _ ?_ | refine Ints.step (by assumption) ?_)) (by repeat (with_reducible first | exact HU.out | assumption | refine Prs.drew ?_ | refine Prs.drewN _ ?_ | refine Prs.alloc _ ?_ | refine Prs.step (by assumption) ?_)) (by repeat (with_reducible first | exact HV.out | assumption | refine Prs.drew ?_ | refine Prs.drewN _ ?_ | refine Prs.alloc _ ?_ | refine Prs.step (by assumption) ?_))).mono ?_; rintro e w20 ⟨rfl, hb20⟩; have hka := Bel.ka HB.out hb20 (by repeat (with_reducible first | exact Below.refl _ _ | refine Bel.alloc ?_ _ | refine Below.drew ?_ | refine Bel.drewN ?_ _)); (try (replace HR := Lib.hid (Blk.step hb20 (Blk.step hka HR.out)))); replace HB := Lib.hid (Bel.step hb20 (Bel.step hka HB.out)); have hsz20 := hb20.size; have hsy20 := hka.size; (try simp only [World.size_alloc, World.size_drew, World.heap_drewN, World.size_setCell] at hsz20 hsy20); clear hka hb20
    rw [hz0]
    generalize (leV C us vs 0).1 = lz at hz1 ⊢
    go_wp2
    go_ret
    exact ⟨rfl, HB.out⟩
end Go.Proofs.Ytpmcgicopogbhaa
