/- StoreText. -/
import Derived.Test.YtinlaokblnhgoaaDoorTj
import Derived.Test.YtinlaokblnhgoaaDoorA2
namespace Go.Proofs.YtinlaokblnhgoaaDoor
set_option linter.unusedVariables false
set_option linter.unusedSimpArgs false
open Go.RowKit
def sls : ByteArray := ⟨#[47]⟩
theorem itS_le {n : Int} (h : -9223372036854775808 ≤ n ∧ n ≤ 9223372036854775807) : (itS n).size ≤ 21 := by rw [itS_size]; exact itoa_le h
theorem join5 (a b c d e : Int) (sep : ByteArray) : itS a ++ sep ++ itS b ++ sep ++ itS c ++ sep ++ itS d ++ sep ++ itS e = joinN [a, b, c, d, e] sep := by
  simp [joinN, itS, Lib.join_cons, Lib.joinTail, ByteArray.append_eq, ByteArray.ext_iff]
noncomputable def stT (x : Int × Int × Int × Int × Int) : ByteArray :=
  if storeB x.1 x.2.1 x.2.2.1 x.2.2.2.1 x.2.2.2.2 = true then joinN [x.1, x.2.1, x.2.2.1, x.2.2.2.1, x.2.2.2.2] sls else ⟨#[]⟩
set_option maxRecDepth 100000 in
set_option maxHeartbeats 4000000 in
theorem impl_StoreText (lo hi now i o : Int) (w : World) (ht : Pow w) :
    Calls Tryd.prog 8 #[stV lo hi now i o] w fun e w' => e = .returned (.string (stT (lo, hi, now, i, o))) ∧ Below w.heap.size w w' := by
  have HT := Lib.hid ht
  clear ht
  cases hb : storeB lo hi now i o
  · have HR := Lib.hid (show stT (lo, hi, now, i, o) = ⟨#[]⟩ by simp [stT, hb])
    go_enter Tryd.func8, Tryd.ntmps8
    go_wp2_with fail
    
    refine (impl_IsStore lo hi now i o _).mono ?_
    rintro e w1 ⟨rfl, hb1⟩
    rw [hb]
    (obtain ⟨hcn, hfn⟩ := bcell hb1; have hz1 := hb1.size; (try simp at hz1); have Ncw0_0 := hcn (w.heap.size) (0) (by first | omega | (simp; done) | (simp; omega)); have Nfw0_0 := hfn (w.heap.size) (0) (by first | omega | (simp; done) | (simp; omega)); have Nhy0 : w.heap.size < w1.heap.size := (by omega); have Ncw0_1 := hcn (w.heap.size) (1) (by first | omega | (simp; done) | (simp; omega)); have Nfw0_1 := hfn (w.heap.size) (1) (by first | omega | (simp; done) | (simp; omega)); have Ncw0_2 := hcn (w.heap.size) (2) (by first | omega | (simp; done) | (simp; omega)); have Nfw0_2 := hfn (w.heap.size) (2) (by first | omega | (simp; done) | (simp; omega)); have Ncw0_3 := hcn (w.heap.size) (3) (by first | omega | (simp; done) | (simp; omega)); have Nfw0_3 := hfn (w.heap.size) (3) (by first | omega | (simp; done) | (simp; omega)); have Ncw0_4 := hcn (w.heap.size) (4) (by first | omega | (simp; done) | (simp; omega)); have Nfw0_4 := hfn (w.heap.size) (4) (by first | omega | (simp; done) | (simp; omega)); simp [go_sem] at Ncw0_0 Nfw0_0 Ncw0_1 Nfw0_1 Ncw0_2 Nfw0_2 Ncw0_3 Nfw0_3 Ncw0_4 Nfw0_4; clear hcn hfn; have cw0_0 := Ncw0_0; have fw0_0 := Nfw0_0; have cw0_1 := Ncw0_1; have fw0_1 := Nfw0_1; have cw0_2 := Ncw0_2; have fw0_2 := Nfw0_2; have cw0_3 := Ncw0_3; have fw0_3 := Nfw0_3; have cw0_4 := Ncw0_4; have fw0_4 := Nfw0_4; have hy0 := Nhy0; clear Ncw0_0 Nfw0_0 Ncw0_1 Nfw0_1 Ncw0_2 Nfw0_2 Ncw0_3 Nfw0_3 Ncw0_4 Nfw0_4 Nhy0)
    go_wp2
    go_ret
    rw [HR.out]
    exact ⟨rfl, by (repeat' (first | (with_reducible exact Below.refl _ _) | (with_reducible assumption) | (with_reducible refine Below.alloc ?_ ?_ _) | (with_reducible refine Below.drew ?_) | (with_reducible refine Below.drewN' ?_ _) | (with_reducible refine Below.setCell ?_ ?_ _) | (refine Below.via ?_ (by with_reducible assumption) ?_) | (with_reducible refine Below.via ?_ (Wd.h _) ?_) | go_size))⟩
  · have HR := Lib.hid (show stT (lo, hi, now, i, o) = joinN [lo, hi, now, i, o] sls by simp [stT, hb])
    have hs := store_of hb
    have HS := Lib.hid hs
    clear hs
    go_enter Tryd.func8, Tryd.ntmps8
    go_wp2_with fail
    
    refine (impl_IsStore lo hi now i o _).mono ?_
    rintro e w1 ⟨rfl, hb1⟩
    rw [hb]
    (obtain ⟨hcn, hfn⟩ := bcell hb1; have hz1 := hb1.size; (try simp at hz1); have Ncw0_0 := hcn (w.heap.size) (0) (by first | omega | (simp; done) | (simp; omega)); have Nfw0_0 := hfn (w.heap.size) (0) (by first | omega | (simp; done) | (simp; omega)); have Nhy0 : w.heap.size < w1.heap.size := (by omega); have Ncw0_1 := hcn (w.heap.size) (1) (by first | omega | (simp; done) | (simp; omega)); have Nfw0_1 := hfn (w.heap.size) (1) (by first | omega | (simp; done) | (simp; omega)); have Ncw0_2 := hcn (w.heap.size) (2) (by first | omega | (simp; done) | (simp; omega)); have Nfw0_2 := hfn (w.heap.size) (2) (by first | omega | (simp; done) | (simp; omega)); have Ncw0_3 := hcn (w.heap.size) (3) (by first | omega | (simp; done) | (simp; omega)); have Nfw0_3 := hfn (w.heap.size) (3) (by first | omega | (simp; done) | (simp; omega)); have Ncw0_4 := hcn (w.heap.size) (4) (by first | omega | (simp; done) | (simp; omega)); have Nfw0_4 := hfn (w.heap.size) (4) (by first | omega | (simp; done) | (simp; omega)); simp [go_sem] at Ncw0_0 Nfw0_0 Ncw0_1 Nfw0_1 Ncw0_2 Nfw0_2 Ncw0_3 Nfw0_3 Ncw0_4 Nfw0_4; clear hcn hfn; have cw0_0 := Ncw0_0; have fw0_0 := Nfw0_0; have cw0_1 := Ncw0_1; have fw0_1 := Nfw0_1; have cw0_2 := Ncw0_2; have fw0_2 := Nfw0_2; have cw0_3 := Ncw0_3; have fw0_3 := Nfw0_3; have cw0_4 := Ncw0_4; have fw0_4 := Nfw0_4; have hy0 := Nhy0; clear Ncw0_0 Nfw0_0 Ncw0_1 Nfw0_1 Ncw0_2 Nfw0_2 Ncw0_3 Nfw0_3 Ncw0_4 Nfw0_4 Nhy0)
    go_wp2_with fail
    refine (impl_joinNumbers (some ⟨w1.heap.size, 0, none⟩) 5 [lo, hi, now, i, o] sls _ ?hH (by simp) ?hI (by decide) (HT.out.below (by (repeat' (first | (with_reducible exact Below.refl _ _) | (with_reducible assumption) | (with_reducible refine Below.alloc ?_ ?_ _) | (with_reducible refine Below.drew ?_) | (with_reducible refine Below.drewN' ?_ _) | (with_reducible refine Below.setCell ?_ ?_ _) | (refine Below.via ?_ (by with_reducible assumption) ?_) | (with_reducible refine Below.via ?_ (Wd.h _) ?_) | go_size))))).mono ?_
    case hH => exact Rd.mk (fun j v e => by rw [Nat.zero_add]; simp; simpa using e) (by simp)
    case hI => exact fun x hx => by have := HS.out; simp at hx; rcases hx with rfl | rfl | rfl | rfl | rfl <;> omega
    rintro e w2 ⟨rfl, hb2⟩
    go_wp2
    go_ret
    rw [HR.out]
    exact ⟨rfl, by (repeat' (first | (with_reducible exact Below.refl _ _) | (with_reducible assumption) | (with_reducible refine Below.alloc ?_ ?_ _) | (with_reducible refine Below.drew ?_) | (with_reducible refine Below.drewN' ?_ _) | (with_reducible refine Below.setCell ?_ ?_ _) | (refine Below.via ?_ (by with_reducible assumption) ?_) | (with_reducible refine Below.via ?_ (Wd.h _) ?_) | go_size))⟩
set_option maxRecDepth 100000 in
set_option maxHeartbeats 4000000 in
theorem spec_StoreText (lo hi now i o : Int) (w : World) :
    Calls Tryd.prog 10 #[stV lo hi now i o] w fun e w' => e = .returned (.string (stT (lo, hi, now, i, o))) ∧ Below w.heap.size w w' := by
  cases hb : storeB lo hi now i o
  · have HR := Lib.hid (show stT (lo, hi, now, i, o) = ⟨#[]⟩ by simp [stT, hb])
    go_enter Tryd.func10, Tryd.ntmps10
    go_wp2_with fail
    
    refine (spec_IsStore lo hi now i o _).mono ?_
    rintro e w1 ⟨rfl, hb1⟩
    rw [hb]
    (obtain ⟨hcn, hfn⟩ := bcell hb1; have hz1 := hb1.size; (try simp at hz1); have Ncw0_0 := hcn (w.heap.size) (0) (by first | omega | (simp; done) | (simp; omega)); have Nfw0_0 := hfn (w.heap.size) (0) (by first | omega | (simp; done) | (simp; omega)); have Nhy0 : w.heap.size < w1.heap.size := (by omega); have Ncw0_1 := hcn (w.heap.size) (1) (by first | omega | (simp; done) | (simp; omega)); have Nfw0_1 := hfn (w.heap.size) (1) (by first | omega | (simp; done) | (simp; omega)); have Ncw0_2 := hcn (w.heap.size) (2) (by first | omega | (simp; done) | (simp; omega)); have Nfw0_2 := hfn (w.heap.size) (2) (by first | omega | (simp; done) | (simp; omega)); have Ncw0_3 := hcn (w.heap.size) (3) (by first | omega | (simp; done) | (simp; omega)); have Nfw0_3 := hfn (w.heap.size) (3) (by first | omega | (simp; done) | (simp; omega)); have Ncw0_4 := hcn (w.heap.size) (4) (by first | omega | (simp; done) | (simp; omega)); have Nfw0_4 := hfn (w.heap.size) (4) (by first | omega | (simp; done) | (simp; omega)); simp [go_sem] at Ncw0_0 Nfw0_0 Ncw0_1 Nfw0_1 Ncw0_2 Nfw0_2 Ncw0_3 Nfw0_3 Ncw0_4 Nfw0_4; clear hcn hfn; have cw0_0 := Ncw0_0; have fw0_0 := Nfw0_0; have cw0_1 := Ncw0_1; have fw0_1 := Nfw0_1; have cw0_2 := Ncw0_2; have fw0_2 := Nfw0_2; have cw0_3 := Ncw0_3; have fw0_3 := Nfw0_3; have cw0_4 := Ncw0_4; have fw0_4 := Nfw0_4; have hy0 := Nhy0; clear Ncw0_0 Nfw0_0 Ncw0_1 Nfw0_1 Ncw0_2 Nfw0_2 Ncw0_3 Nfw0_3 Ncw0_4 Nfw0_4 Nhy0)
    go_wp2
    go_ret
    rw [HR.out]
    exact ⟨rfl, by (repeat' (first | (with_reducible exact Below.refl _ _) | (with_reducible assumption) | (with_reducible refine Below.alloc ?_ ?_ _) | (with_reducible refine Below.drew ?_) | (with_reducible refine Below.drewN' ?_ _) | (with_reducible refine Below.setCell ?_ ?_ _) | (refine Below.via ?_ (by with_reducible assumption) ?_) | (with_reducible refine Below.via ?_ (Wd.h _) ?_) | go_size))⟩
  · have HR := Lib.hid (show stT (lo, hi, now, i, o) = joinN [lo, hi, now, i, o] sls by simp [stT, hb])
    have hs := store_of hb
    obtain ⟨lo', rfl⟩ : ∃ k : Nat, lo = k := ⟨lo.toNat, by omega⟩
    obtain ⟨hi', rfl⟩ : ∃ k : Nat, hi = k := ⟨hi.toNat, by omega⟩
    obtain ⟨now', rfl⟩ : ∃ k : Nat, now = k := ⟨now.toNat, by omega⟩
    obtain ⟨i', rfl⟩ : ∃ k : Nat, i = k := ⟨i.toNat, by omega⟩
    obtain ⟨o', rfl⟩ : ∃ k : Nat, o = k := ⟨o.toNat, by omega⟩
    have z1 := itS_le (n := (lo' : Int)) (by omega)
    have z2 := itS_le (n := (hi' : Int)) (by omega)
    have z3 := itS_le (n := (now' : Int)) (by omega)
    have z4 := itS_le (n := (i' : Int)) (by omega)
    have z5 := itS_le (n := (o' : Int)) (by omega)
    have b1 : lo' ≤ 9223372036854775807 := by omega
    have b2 : hi' ≤ 9223372036854775807 := by omega
    have b3 : now' ≤ 9223372036854775807 := by omega
    have b4 : i' ≤ 9223372036854775807 := by omega
    have b5 : o' ≤ 9223372036854775807 := by omega
    have HJ := Lib.hid (join5 (lo' : Int) hi' now' i' o' sls)
    clear hs
    go_enter Tryd.func10, Tryd.ntmps10
    go_wp2_with fail
    
    refine (spec_IsStore lo' hi' now' i' o' _).mono ?_
    rintro e w1 ⟨rfl, hb1⟩
    rw [hb]
    (obtain ⟨hcn, hfn⟩ := bcell hb1; have hz1 := hb1.size; (try simp at hz1); have Ncw0_0 := hcn (w.heap.size) (0) (by first | omega | (simp; done) | (simp; omega)); have Nfw0_0 := hfn (w.heap.size) (0) (by first | omega | (simp; done) | (simp; omega)); have Nhy0 : w.heap.size < w1.heap.size := (by omega); have Ncw0_1 := hcn (w.heap.size) (1) (by first | omega | (simp; done) | (simp; omega)); have Nfw0_1 := hfn (w.heap.size) (1) (by first | omega | (simp; done) | (simp; omega)); have Ncw0_2 := hcn (w.heap.size) (2) (by first | omega | (simp; done) | (simp; omega)); have Nfw0_2 := hfn (w.heap.size) (2) (by first | omega | (simp; done) | (simp; omega)); have Ncw0_3 := hcn (w.heap.size) (3) (by first | omega | (simp; done) | (simp; omega)); have Nfw0_3 := hfn (w.heap.size) (3) (by first | omega | (simp; done) | (simp; omega)); have Ncw0_4 := hcn (w.heap.size) (4) (by first | omega | (simp; done) | (simp; omega)); have Nfw0_4 := hfn (w.heap.size) (4) (by first | omega | (simp; done) | (simp; omega)); simp [go_sem] at Ncw0_0 Nfw0_0 Ncw0_1 Nfw0_1 Ncw0_2 Nfw0_2 Ncw0_3 Nfw0_3 Ncw0_4 Nfw0_4; clear hcn hfn; have cw0_0 := Ncw0_0; have fw0_0 := Nfw0_0; have cw0_1 := Ncw0_1; have fw0_1 := Nfw0_1; have cw0_2 := Ncw0_2; have fw0_2 := Nfw0_2; have cw0_3 := Ncw0_3; have fw0_3 := Nfw0_3; have cw0_4 := Ncw0_4; have fw0_4 := Nfw0_4; have hy0 := Nhy0; clear Ncw0_0 Nfw0_0 Ncw0_1 Nfw0_1 Ncw0_2 Nfw0_2 Ncw0_3 Nfw0_3 Ncw0_4 Nfw0_4 Nhy0)
    go_wp2_with fail
    have q0 := Wd.cell hy0 cw0_0
    have q1 := Wd.cell hy0 cw0_1
    have q2 := Wd.cell hy0 cw0_2
    have q3 := Wd.cell hy0 cw0_3
    have q4 := Wd.cell hy0 cw0_4
    refine wp_region_wd (by kernel_rfl) (by kernel_rfl) ?_
    repeat (go_big_quiet_step ((go_at_call 29; exact wd_below (spec_l01Dec _ (by assumption) _))))
    refine wpQuiet_nil ?_
    rintro w2 ⟨⟨w'', hbn⟩, hw''⟩
    obtain rfl : w2 = w'' := hw''
    clear q0 q1 q2 q3 q4
    go_wp2
    go_ret
    rw [HR.out, ← HJ.out]
    exact ⟨rfl, by (repeat' (first | (with_reducible exact Below.refl _ _) | (with_reducible assumption) | (with_reducible refine Below.alloc ?_ ?_ _) | (with_reducible refine Below.drew ?_) | (with_reducible refine Below.drewN' ?_ _) | (with_reducible refine Below.setCell ?_ ?_ _) | (refine Below.via ?_ (by with_reducible assumption) ?_) | (with_reducible refine Below.via ?_ (Wd.h _) ?_) | go_size))⟩
end Go.Proofs.YtinlaokblnhgoaaDoor
