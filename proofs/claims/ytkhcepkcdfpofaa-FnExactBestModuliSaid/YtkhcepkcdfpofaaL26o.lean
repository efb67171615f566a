/- Chapter 26: the best moduli, of the program. Conditions: as stated at each contract. -/
import Derived.Test.YtkhcepkcdfpofaaProg
import Derived.Test.YtkhcepkcdfpofaaBase
import Derived.Test.YtkhcepkcdfpofaaRw
import Derived.Test.YtkhcepkcdfpofaaRg
import Derived.Test.YtkhcepkcdfpofaaL01
import Derived.Test.YtkhcepkcdfpofaaCp
import Derived.Test.YtkhcepkcdfpofaaCh
import Derived.Test.YtkhcepkcdfpofaaL18
import Derived.Test.YtkhcepkcdfpofaaL23
import Derived.Test.YtkhcepkcdfpofaaL23b
import Derived.Test.YtkhcepkcdfpofaaL03
import Derived.Test.YtkhcepkcdfpofaaL04
import Derived.Test.YtkhcepkcdfpofaaL23d
import Derived.Test.YtkhcepkcdfpofaaL23e
import Derived.Test.YtkhcepkcdfpofaaL23f
import Derived.Test.YtkhcepkcdfpofaaL24
import Derived.Test.YtkhcepkcdfpofaaL24b
import Derived.Test.YtkhcepkcdfpofaaL24c
import Derived.Test.YtkhcepkcdfpofaaL24d
import Derived.Test.YtkhcepkcdfpofaaL24f
import Derived.Test.YtkhcepkcdfpofaaL24g
import Derived.Test.YtkhcepkcdfpofaaL24r
import Derived.Test.YtkhcepkcdfpofaaL23g
import Derived.Test.YtkhcepkcdfpofaaL23h
import Derived.Test.YtkhcepkcdfpofaaL26a
import Derived.Test.YtkhcepkcdfpofaaL26b
import Derived.Test.YtkhcepkcdfpofaaL26c
import Derived.Test.YtkhcepkcdfpofaaL26h
import Derived.Test.YtkhcepkcdfpofaaL26i
import Derived.Test.YtkhcepkcdfpofaaL26j
import Derived.Test.YtkhcepkcdfpofaaL26k
import Derived.Test.YtkhcepkcdfpofaaL26m
import Derived.Test.YtkhcepkcdfpofaaL26n
import Derived.WalkKit
import Derived.WalkSpells
import Derived.WalkLawsBesides
import Derived.Lib.Hide
import Derived.Deep.QuietTactic
import Derived.BigQuiet
import Derived.Deep.Draws
import Derived.Deep.RegionHeld3
import Derived.Deep.Cut
namespace Go.Proofs.Ytkhcepkcdfpofaa
open Go.RowKit
set_option linter.unusedVariables false
set_option linter.unusedSimpArgs false
set_option maxRecDepth 50000 in
set_option maxHeartbeats 4000000 in
theorem BestModuli_I (C : Ch) (A : Option Addr) (c : Nat) (M : Option Addr) (m : Nat) (ms : List Int) (D : Option Addr) (d : Nat) (us : List (Int × Int)) (E : Option Addr) (f : Nat) (vs : List (Int × Int)) (e most : Int) (hn : C.zs.length ≤ 1048576) (hm : C.nm.size ≤ 1048576) (hx : ms.length ≤ 1048576) (hu : us.length ≤ 1048576) (hv : vs.length ≤ 1048576) (w : World) (hA : Ints w A C.zs) (hM : Ints w M ms) (hD : Prs w D us) (hE : Prs w E vs) :
    Calls Try.prog 44 #[.agg #[.int .i64 C.dg, .int .i64 C.tn, .string C.nm, .slice A C.zs.length c, .int .i64 C.wd, .int .i64 C.lf, .int .i64 C.rt], .slice M ms.length m, .slice D us.length d, .slice E vs.length f, .int .i64 e, .int .i64 most] w fun r w' => r = .returned (.tuple #[.int .i64 (bmV C us vs e most ms).1, .int .i64 (bmV C us vs e most ms).2, .int .i64 (bmC C us vs e most ms)]) ∧ Below w.heap.size w w' := by
  have HI := Lib.hid hA
  have HM := Lib.hid hM
  have HD := Lib.hid hD
  have HE := Lib.hid hE
  clear hA hM hD hE
  go_enter Try.func44, Try.ntmps44
  go_wp2_with fail
  go_at_call 53; refine (checkSamples_c _ _ _ _ _ us _ _ vs e hn hm hu hv _ (by repeat (with_reducible first | exact HI.out | assumption | refine Ints.drew ?_ | refine Ints.drewN _ ?_ | refine Ints.alloc _ ?_ | refine Ints.step (by assumption) ?_)) (by repeat (with_reducible first | exact HD.out | assumption | refine Prs.drew ?_ | refine Prs.drewN _ ?_ | refine Prs.alloc _ ?_ | refine Prs.step (by assumption) ?_)) (by repeat (with_reducible first | exact HE.out | assumption | refine Prs.drew ?_ | refine Prs.drewN _ ?_ | refine Prs.alloc _ ?_ | refine Prs.step (by assumption) ?_))).mono ?_; rintro r w1 ⟨rfl, hb1⟩
  have HC1 : Blk w1 w.heap.size 38 #[.int .i64 C.dg, .int .i64 C.tn, .string C.nm, .slice A C.zs.length c, .int .i64 C.wd, .int .i64 C.lf, .int .i64 C.rt] := Blk.step hb1 (Blk.new _ _ _)
  have hbel1 : Below w.heap.size w w1 := by repeat (with_reducible first | exact Below.refl _ _ | assumption | refine Bel.alloc ?_ _ | refine Bel.step (by assumption) ?_ | refine Below.drew ?_ | refine Bel.drewN ?_ _ | refine Below.setCell ?_ (by first | exact Nat.le_refl _ | omega | (simp; done) | (simp; omega)) _)
  have HC1 := Lib.hid HC1
  clear hb1
  by_cases hk : lyC C us vs e = 0
  rotate_left
  · have HK := Lib.hid (bm_ly (most := most) (ms := ms) hk)
    have b1 : (lyC C us vs e != 0) = true := by simpa using hk
    clear hk
    go_wp2
    refine bodyPost_ret (results_three rfl _ _ _) rfl ⟨by rw [HK.out.1, HK.out.2]; rfl, by repeat (with_reducible first | exact Below.refl _ _ | assumption | refine Bel.alloc ?_ _ | refine Bel.step (by assumption) ?_ | refine Below.drew ?_ | refine Bel.drewN ?_ _ | refine Below.setCell ?_ (by first | exact Nat.le_refl _ | omega | (simp; done) | (simp; omega)) _)⟩
  have HL := Lib.hid hk
  rw [hk]
  clear hk
  have HM1 := Lib.hid (Ints.step hbel1 HM.out)
  by_cases h8 : ms.length ≤ 8
  rotate_left
  · have HT := Lib.hid (bm_2 HL.out (show bmG ms most = false by simp [bmG, h8]))
    go_wp2
    refine bodyPost_ret (results_three rfl _ _ _) rfl ⟨by rw [HT.out.1, HT.out.2]; rfl, by repeat (with_reducible first | exact Below.refl _ _ | assumption | refine Bel.alloc ?_ _ | refine Bel.step (by assumption) ?_ | refine Below.drew ?_ | refine Bel.drewN ?_ _ | refine Below.setCell ?_ (by first | exact Nat.le_refl _ | omega | (simp; done) | (simp; omega)) _)⟩
  go_wp2_with fail
  go_at_call 82; refine (within_c _ _ _ _).mono ?_; rintro e w' ⟨rfl, rfl⟩
  cases hi : inB most 0 100000
  · have HT := Lib.hid (bm_2 HL.out (show bmG ms most = false by simp [bmG, hi]))
    clear hi
    go_wp2
    refine bodyPost_ret (results_three rfl _ _ _) rfl ⟨by rw [HT.out.1, HT.out.2]; rfl, by repeat (with_reducible first | exact Below.refl _ _ | assumption | refine Bel.alloc ?_ _ | refine Bel.step (by assumption) ?_ | refine Below.drew ?_ | refine Bel.drewN ?_ _ | refine Below.setCell ?_ (by first | exact Nat.le_refl _ | omega | (simp; done) | (simp; omega)) _)⟩
  have HIn := Lib.hid hi
  clear hi
  go_wp2_with fail
  go_at_call 83; refine (bmContains_c M m ms hx _ HM1.out).mono ?_; rintro r w3 ⟨rfl, rfl⟩
  cases hg : msOk ms
  · have HT := Lib.hid (bm_2 HL.out (show bmG ms most = false by simp [bmG, hg]))
    clear hg
    go_wp2
    refine bodyPost_ret (results_three rfl _ _ _) rfl ⟨by rw [HT.out.1, HT.out.2]; rfl, by repeat (with_reducible first | exact Below.refl _ _ | assumption | refine Bel.alloc ?_ _ | refine Bel.step (by assumption) ?_ | refine Below.drew ?_ | refine Bel.drewN ?_ _ | refine Below.setCell ?_ (by first | exact Nat.le_refl _ | omega | (simp; done) | (simp; omega)) _)⟩
  have HMs := Lib.hid hg
  have HGo := Lib.hid (show bmG ms most = true by simp [bmG, h8, hg, HIn.out])
  clear hg
  have HY := Lib.hid (lyC_0 HL.out)
  have HX0 : Blk (w3.alloc (.cells #[.int .i64 ZC.dg, .int .i64 ZC.tn, .string ZC.nm, .slice none ZC.zs.length 0, .int .i64 ZC.wd, .int .i64 ZC.lf, .int .i64 ZC.rt] 38)) w3.heap.size 38 #[.int .i64 ZC.dg, .int .i64 ZC.tn, .string ZC.nm, .slice none ZC.zs.length 0, .int .i64 ZC.wd, .int .i64 ZC.lf, .int .i64 ZC.rt] := Blk.new _ _ _
  have HC3 : Blk (w3.alloc (.cells #[.int .i64 ZC.dg, .int .i64 ZC.tn, .string ZC.nm, .slice none ZC.zs.length 0, .int .i64 ZC.wd, .int .i64 ZC.lf, .int .i64 ZC.rt] 38)) w.heap.size 38 #[.int .i64 C.dg, .int .i64 C.tn, .string C.nm, .slice A C.zs.length c, .int .i64 C.wd, .int .i64 C.lf, .int .i64 C.rt] := Blk.alloc _ HC1.out
  have hbel3 : Below w.heap.size w (w3.alloc (.cells #[.int .i64 ZC.dg, .int .i64 ZC.tn, .string ZC.nm, .slice none ZC.zs.length 0, .int .i64 ZC.wd, .int .i64 ZC.lf, .int .i64 ZC.rt] 38)) := by repeat (with_reducible first | exact Below.refl _ _ | assumption | refine Bel.alloc ?_ _ | refine Bel.step (by assumption) ?_ | refine Below.drew ?_ | refine Bel.drewN ?_ _ | refine Below.setCell ?_ (by first | exact Nat.le_refl _ | omega | (simp; done) | (simp; omega)) _)
  have lX : w.heap.size < w3.heap.size := HC1.out.lt
  have HXh := Lib.hid HX0
  have HCh := Lib.hid HC3
  clear HX0 HC3 HC1 HM1 hbel1
  have h8' : ¬ (8 : Int) < (ms.length : Int) := by omega
  go_wp2
  obtain ⟨X, hX⟩ : ∃ X, X = w3.heap.size := ⟨_, rfl⟩
  rw [← hX] at HXh lX ⊢
  clear hX
  go_loopw [17, 19, 21, 22, 23, 24, 25, 26, 27, 28, 52, 56, 57, 58] (fun n _ _ _ _ _ _ _ _ _ i _ _ _ wr => ∃ (k : Nat) (K : Ch) (A' : Option Addr) (c' : Nat), k ≤ ms.length ∧ i = .int .i64 k ∧ n = .int .i64 ((ms.take k).foldl (bmR C us vs e most ms) (0, 0, -1)).2.2 ∧ K.lf = ((ms.take k).foldl (bmR C us vs e most ms) (0, 0, -1)).1 ∧ K.rt = ((ms.take k).foldl (bmR C us vs e most ms) (0, 0, -1)).2.1 ∧ Hid (Blk wr X 38 #[.int .i64 K.dg, .int .i64 K.tn, .string K.nm, .slice A' K.zs.length c', .int .i64 K.wd, .int .i64 K.lf, .int .i64 K.rt]) ∧ Hid (Blk wr w.heap.size 38 #[.int .i64 C.dg, .int .i64 C.tn, .string C.nm, .slice A C.zs.length c, .int .i64 C.wd, .int .i64 C.lf, .int .i64 C.rt]) ∧ Below w.heap.size w wr) (fun _ _ _ _ _ _ _ _ _ _ i _ _ _ _ => ms.length - (intOf i).toNat)
  case atStart => exact ⟨0, ZC, none, 0, Nat.zero_le _, rfl, rfl, rfl, rfl, HXh, HCh, hbel3⟩
  case round =>
    clear HXh HCh hbel3
    obtain ⟨k, K, A', c', hk, rfl, rfl, hK1, hK2, HXb, HC, hbel⟩ := hrel
    by_cases hlt : k < ms.length
    rotate_left
    · obtain rfl : k = ms.length := by omega
      rw [List.take_length] at hK1 hK2 ⊢
      rw [show (ms.foldl (bmR C us vs e most ms) (0, 0, -1)) = bmT C us vs e most ms from rfl] at hK1 hK2 ⊢
      have l0 : wr.cell? ⟨X, 5, none⟩ = some (.int .i64 K.lf) := by rw [HXb.out.cell]; rfl
      have l1 : wr.cell? ⟨X, 6, none⟩ = some (.int .i64 K.rt) := by rw [HXb.out.cell]; rfl
      rw [hK1] at l0
      rw [hK2] at l1
      clear hK1 hK2
      by_cases hn4 : (bmT C us vs e most ms).2.2 < 0
      · have HT := Lib.hid (bm_4 HL.out HGo.out hn4)
        generalize bmT C us vs e most ms = t at *
        go_wp2
        refine bodyPost_ret (results_three rfl _ _ _) rfl ⟨by rw [HT.out.1, HT.out.2]; rfl, by repeat (with_reducible first | exact Below.refl _ _ | assumption | refine Bel.alloc ?_ _ | refine Bel.step (by assumption) ?_ | refine Below.drew ?_ | refine Bel.drewN ?_ _ | refine Below.setCell ?_ (by first | exact Nat.le_refl _ | omega | (simp; done) | (simp; omega)) _)⟩
      · have HT := Lib.hid (bm_0 HL.out HGo.out hn4)
        generalize bmT C us vs e most ms = t at *
        go_wp2
        go_region_held3 (fun w' => w'.cell? ⟨X, 5, none⟩ = some (.int .i64 t.1) ∧ w'.cell? ⟨X, 6, none⟩ = some (.int .i64 t.2.1)) (simp [go_sem, *]) (fail)
        go_wp2
        refine bodyPost_ret (results_three rfl _ _ _) rfl ⟨by rw [HT.out.1, HT.out.2]; rfl, by repeat (with_reducible first | exact Below.refl _ _ | assumption | refine Bel.alloc ?_ _ | refine Bel.step (by assumption) ?_ | refine Below.drew ?_ | refine Bel.drewN ?_ _ | refine Below.setCell ?_ (by first | exact Nat.le_refl _ | omega | (simp; done) | (simp; omega)) _)⟩
    have HK := Lib.hid (foldl_step (bmR C us vs e most ms) (0, 0, -1) hlt)
    have HMz := Lib.hid (fun (W : World) (hW : Below w.heap.size w W) => (Ints.step hW HM.out).at_ k hlt)
    obtain ⟨bm, om, e1, hbm, ck⟩ := HMz.out _ hbel
    subst e1
    generalize (ms.take k).foldl (bmR C us vs e most ms) (0, 0, -1) = s at *
    go_wp2
    go_loopw [17, 21, 22, 23, 24, 25, 26, 27, 28, 58] (fun n _ _ _ _ _ _ _ _ i wr => ∃ (l : Nat) (K : Ch) (A' : Option Addr) (c' : Nat), l ≤ ms.length ∧ i = .int .i64 l ∧ n = .int .i64 ((ms.take l).foldl (bmS C us vs e most ms[k]) s).2.2 ∧ K.lf = ((ms.take l).foldl (bmS C us vs e most ms[k]) s).1 ∧ K.rt = ((ms.take l).foldl (bmS C us vs e most ms[k]) s).2.1 ∧ Hid (Blk wr X 38 #[.int .i64 K.dg, .int .i64 K.tn, .string K.nm, .slice A' K.zs.length c', .int .i64 K.wd, .int .i64 K.lf, .int .i64 K.rt]) ∧ Hid (Blk wr w.heap.size 38 #[.int .i64 C.dg, .int .i64 C.tn, .string C.nm, .slice A C.zs.length c, .int .i64 C.wd, .int .i64 C.lf, .int .i64 C.rt]) ∧ Below w.heap.size w wr) (fun _ _ _ _ _ _ _ _ _ i _ => ms.length - (intOf i).toNat)
    case atStart => exact ⟨0, K, A', c', Nat.zero_le _, rfl, rfl, hK1, hK2, HXb, HC, hbel⟩
    case round =>
      clear HXb HC hbel hK1 hK2 ck hbm
      obtain ⟨l, K, A', c', hl, rfl, rfl, hK1, hK2, HXb, HC, hbel⟩ := hrel
      by_cases hlt2 : l < ms.length
      rotate_left
      · obtain rfl : l = ms.length := by omega
        rw [List.take_length] at hK1 hK2 ⊢
        have HR := Lib.hid (show (ms.take (k + 1)).foldl (bmR C us vs e most ms) (0, 0, -1) = ms.foldl (bmS C us vs e most ms[k]) s from HK.out)
        generalize ms.foldl (bmS C us vs e most ms[k]) s = t at *
        go_wp2
        go_roundw
        case rel => exact ⟨k + 1, K, A', c', by omega, by go_num, by rw [HR.out], by rw [HR.out]; exact hK1, by rw [HR.out]; exact hK2, HXb, HC, hbel⟩
        case measure => simp [intOf]; omega
      have HZ := Lib.hid (foldl_step (bmS C us vs e most ms[k]) s hlt2)
      have HAk := Lib.hid (List.all_eq_true.1 HMs.out _ (List.getElem_mem hlt))
      have HBl := Lib.hid (List.all_eq_true.1 HMs.out _ (List.getElem_mem hlt2))
      obtain ⟨bm', om', e2, hbm', cl⟩ := (Ints.step hbel HM.out).at_ l hlt2
      cases e2
      clear HK HMz
      generalize ms[k] = a at *
      generalize ms[l] = b at *
      generalize (ms.take l).foldl (bmS C us vs e most a) s = t at *
      have HOk := Lib.hid (mC_ok HY.out.1 HAk.out HBl.out)
      have hz0 : 0 < C.zs.length := by have := (okCh_iff HY.out.1).2.1; omega
      have p0 : wr.cell? ⟨w.heap.size, 0, none⟩ = some (.int .i64 C.dg) := by rw [HC.out.cell]; rfl
      have p1 : wr.cell? ⟨w.heap.size, 1, none⟩ = some (.int .i64 C.tn) := by rw [HC.out.cell]; rfl
      have p2 : wr.cell? ⟨w.heap.size, 2, none⟩ = some (.string C.nm) := by rw [HC.out.cell]; rfl
      have p3 : wr.cell? ⟨w.heap.size, 3, none⟩ = some (.slice A C.zs.length c) := by rw [HC.out.cell]; rfl
      have p4 : wr.cell? ⟨w.heap.size, 4, none⟩ = some (.int .i64 C.wd) := by rw [HC.out.cell]; rfl
      have p5 : wr.cell? ⟨w.heap.size, 5, none⟩ = some (.int .i64 C.lf) := by rw [HC.out.cell]; rfl
      have p6 : wr.cell? ⟨w.heap.size, 6, none⟩ = some (.int .i64 C.rt) := by rw [HC.out.cell]; rfl
      have clt := HC.out.lt
      have HIr := Lib.hid (Ints.step hbel HI.out)
      go_wp2_with fail
      go_at_call 85; refine (withModuli_c C A c a b hz0 hn _ HIr.out).mono ?_; rintro r w4 ⟨A5, c5, rfl, hO4, hb4⟩
      have HC4 := Blk.alloc (.cells #[.int .i64 (mC C a b).dg, .int .i64 (mC C a b).tn, .string (mC C a b).nm, .slice A5 (mC C a b).zs.length c5, .int .i64 (mC C a b).wd, .int .i64 (mC C a b).lf, .int .i64 (mC C a b).rt] 38) (Blk.step hb4 HC.out)
      have HX4 := Blk.alloc (.cells #[.int .i64 (mC C a b).dg, .int .i64 (mC C a b).tn, .string (mC C a b).nm, .slice A5 (mC C a b).zs.length c5, .int .i64 (mC C a b).wd, .int .i64 (mC C a b).lf, .int .i64 (mC C a b).rt] 38) (Blk.step hb4 HXb.out)
      have HD4 := Blk.new w4 38 #[.int .i64 (mC C a b).dg, .int .i64 (mC C a b).tn, .string (mC C a b).nm, .slice A5 (mC C a b).zs.length c5, .int .i64 (mC C a b).wd, .int .i64 (mC C a b).lf, .int .i64 (mC C a b).rt]
      have HJ4 := Lib.hid (Ints.alloc (.cells #[.int .i64 (mC C a b).dg, .int .i64 (mC C a b).tn, .string (mC C a b).nm, .slice A5 (mC C a b).zs.length c5, .int .i64 (mC C a b).wd, .int .i64 (mC C a b).lf, .int .i64 (mC C a b).rt] 38) hO4.ints)
      have hbel4 := Bel.alloc (Bel.step hb4 hbel) (.cells #[.int .i64 (mC C a b).dg, .int .i64 (mC C a b).tn, .string (mC C a b).nm, .slice A5 (mC C a b).zs.length c5, .int .i64 (mC C a b).wd, .int .i64 (mC C a b).lf, .int .i64 (mC C a b).rt] 38)
      have hlX := HX4.lt
      clear hb4 hO4 HC HXb hbel p0 p1 p2 p3 p4 p5 p6 cl hbm' clt HIr
      go_wp2_with fail
      go_at_call 57; refine (heightOf_c (mC C a b) A5 c5 _ _ us _ _ vs hn hm HOk.out HY.out.2.1 HY.out.2.2.1 HY.out.2.2.2.1.1 HY.out.2.2.2.1.2 HY.out.2.2.2.2.1.1 HY.out.2.2.2.2.1.2 _ HJ4.out (Prs.step hbel4 HD.out) (Prs.step hbel4 HE.out)).mono ?_; rintro r w5 ⟨rfl, hb5⟩
      have HC5 := Blk.step hb5 HC4
      have HX5 := Blk.step hb5 HX4
      have HD5 := Blk.step hb5 HD4
      have HJ5 := Lib.hid (Ints.step hb5 HJ4.out)
      have hbel5 := Bel.step hb5 hbel4
      clear hb5 HC4 HX4 HD4 HJ4 hbel4 hlX
      generalize w4.heap.size = Y at HD5 ⊢
      have p0 : w5.cell? ⟨Y, 0, none⟩ = some (.int .i64 (mC C a b).dg) := by rw [HD5.cell]; rfl
      have p1 : w5.cell? ⟨Y, 1, none⟩ = some (.int .i64 (mC C a b).tn) := by rw [HD5.cell]; rfl
      have p2 : w5.cell? ⟨Y, 2, none⟩ = some (.string (mC C a b).nm) := by rw [HD5.cell]; rfl
      have p3 : w5.cell? ⟨Y, 3, none⟩ = some (.slice A5 (mC C a b).zs.length c5) := by rw [HD5.cell]; rfl
      have p4 : w5.cell? ⟨Y, 4, none⟩ = some (.int .i64 (mC C a b).wd) := by rw [HD5.cell]; rfl
      have p5 : w5.cell? ⟨Y, 5, none⟩ = some (.int .i64 (mC C a b).lf) := by rw [HD5.cell]; rfl
      have p6 : w5.cell? ⟨Y, 6, none⟩ = some (.int .i64 (mC C a b).rt) := by rw [HD5.cell]; rfl
      go_wp2_with fail
      go_at_call 54; refine (worstPair_c (mC C a b) A5 c5 _ _ us _ _ vs e hn hm HOk.out HY.out.2.1 HY.out.2.2.1 HY.out.2.2.2.1.2 HY.out.2.2.2.2.1.2 HY.out.2.2.2.2.2.1 HY.out.2.2.2.2.2.2 _ HJ5.out (Prs.step hbel5 HD.out) (Prs.step hbel5 HE.out)).mono ?_; rintro r w6 ⟨rfl, hb6⟩
      have HC6 := Lib.hid (Blk.step hb6 HC5)
      have HXx := Blk.step hb6 HX5
      have HDx := Blk.step hb6 HD5
      have hbel6 := Bel.step hb6 hbel5
      clear hb6 HC5 HX5 HD5 HJ5 hbel5 p0 p1 p2 p3 p4 p5 p6
      have HGx := Lib.hid (fun (h : ¬ ((htC (mC C a b) us vs = 0 ∧ wC (mC C a b) us vs = 0 ∧ htV (mC C a b) us vs ≤ most) ∧ (t.2.2 < 0 ∨ (wV (mC C a b) us vs e).1 < t.2.2))) => bmS_no (C := C) (us := us) (vs := vs) (e := e) (a := a) (b := b) h)
      have HGy := Lib.hid (fun h1 h2 h3 h4 => bmS_yes (C := C) (us := us) (vs := vs) (e := e) (most := most) (a := a) (b := b) (s := t) h1 h2 h3 h4)
      generalize htC (mC C a b) us vs = hc at *
      generalize wC (mC C a b) us vs = wc at *
      generalize htV (mC C a b) us vs = hv at *
      generalize (wV (mC C a b) us vs e).1 = wn at *
      by_cases c1 : hc = 0
      rotate_left
      · have d1 : (hc == 0) = false := by simpa using c1
        have HX := Lib.hid (HZ.out.trans (HGx.out (fun h => c1 h.1.1)))
        go_wp2
        go_roundw
        case rel => exact ⟨l + 1, K, A', c', by omega, by go_num, by rw [HX.out], by rw [HX.out]; exact hK1, by rw [HX.out]; exact hK2, Lib.hid HXx, HC6, hbel6⟩
        case measure => simp [intOf]; omega
      by_cases c2 : wc = 0
      rotate_left
      · have d1 : (hc == 0) = true := by simpa using c1
        have d2 : (wc == 0) = false := by simpa using c2
        have HX := Lib.hid (HZ.out.trans (HGx.out (fun h => c2 h.1.2.1)))
        go_wp2
        go_roundw
        case rel => exact ⟨l + 1, K, A', c', by omega, by go_num, by rw [HX.out], by rw [HX.out]; exact hK1, by rw [HX.out]; exact hK2, Lib.hid HXx, HC6, hbel6⟩
        case measure => simp [intOf]; omega
      have d1 : (hc == 0) = true := by simpa using c1
      have d2 : (wc == 0) = true := by simpa using c2
      by_cases c3 : hv ≤ most
      rotate_left
      · skip
        have HX := Lib.hid (HZ.out.trans (HGx.out (fun h => c3 h.1.2.2)))
        go_wp2
        go_roundw
        case rel => exact ⟨l + 1, K, A', c', by omega, by go_num, by rw [HX.out], by rw [HX.out]; exact hK1, by rw [HX.out]; exact hK2, Lib.hid HXx, HC6, hbel6⟩
        case measure => simp [intOf]; omega
      by_cases c4 : t.2.2 < 0
      · skip
        have HX := Lib.hid (HZ.out.trans (HGy.out c1 c2 c3 (Or.inl c4)))
        go_wp2_with (first | (refine wpList_load_blkG 38 _ _ HDx Try.underlying38 (by kernel_rfl) rfl rfl (by rfl) ?_) | (refine wpList_store_blk (cs := #[.int .i64 (mC C a b).dg, .int .i64 (mC C a b).tn, .string (mC C a b).nm, .slice A5 (mC C a b).zs.length c5, .int .i64 (mC C a b).wd, .int .i64 (mC C a b).lf, .int .i64 (mC C a b).rt]) 38 _ _ _ HXx (by kernel_rfl) rfl (by simp [Value.oneCell']) rfl rfl rfl rfl ?_))
        go_roundw
        case rel => exact ⟨l + 1, mC C a b, A5, c5, by omega, by go_num, by rw [HX.out], by rw [HX.out]; rfl, by rw [HX.out]; rfl, Lib.hid (Blk.setRow _ HXx), Lib.hid (Blk.setRow_far _ (by omega) HC6.out), Bel.setRow hbel6 (by omega) _⟩
        case measure => simp [intOf]; omega
      by_cases hw5 : wn < t.2.2
      · have d4 : decide (t.2.2 < 0) = false := by simpa using c4
        have d5 : decide (wn < t.2.2) = true := by simpa using hw5
        have HX := Lib.hid (HZ.out.trans (HGy.out c1 c2 c3 (Or.inr hw5)))
        go_wp2_with (first | (refine wpList_load_blkG 38 _ _ HDx Try.underlying38 (by kernel_rfl) rfl rfl (by rfl) ?_) | (refine wpList_store_blk (cs := #[.int .i64 (mC C a b).dg, .int .i64 (mC C a b).tn, .string (mC C a b).nm, .slice A5 (mC C a b).zs.length c5, .int .i64 (mC C a b).wd, .int .i64 (mC C a b).lf, .int .i64 (mC C a b).rt]) 38 _ _ _ HXx (by kernel_rfl) rfl (by simp [Value.oneCell']) rfl rfl rfl rfl ?_))
        go_roundw
        case rel => exact ⟨l + 1, mC C a b, A5, c5, by omega, by go_num, by rw [HX.out], by rw [HX.out]; rfl, by rw [HX.out]; rfl, Lib.hid (Blk.setRow _ HXx), Lib.hid (Blk.setRow_far _ (by omega) HC6.out), Bel.setRow hbel6 (by omega) _⟩
        case measure => simp [intOf]; omega
      have HX := Lib.hid (HZ.out.trans (HGx.out (fun h => h.2.elim c4 hw5)))
      go_wp2
      go_roundw
      case rel => exact ⟨l + 1, K, A', c', by omega, by go_num, by rw [HX.out], by rw [HX.out]; exact hK1, by rw [HX.out]; exact hK2, Lib.hid HXx, HC6, hbel6⟩
      case measure => simp [intOf]; omega
end Go.Proofs.Ytkhcepkcdfpofaa
