/- Drawn contracts. -/
import Derived.Test.YtbdacplndmnkhaaGreatDoorDg
import Derived.Test.YtbdacplndmnkhaaGreatDoorCt2
import Derived.Test.YtbdacplndmnkhaaGreatDoorLContract
import Derived.Deep.DeepCutAuto
namespace Go.Proofs.YtbdacplndmnkhaaGreatDoor
set_option linter.unusedVariables false
set_option linter.unusedSimpArgs false
open Go.RowKit
theorem bx8 {w : World} {b : Nat} {v0 v1 v2 v3 v4 v5 v6 v7 : Value} (h : b < w.heap.size) (c0 : w.cell? ⟨b, 0, none⟩ = some v0) (f0 : w.frozen? ⟨b, 0, none⟩ = false) (c1 : w.cell? ⟨b, 1, none⟩ = some v1) (f1 : w.frozen? ⟨b, 1, none⟩ = false) (c2 : w.cell? ⟨b, 2, none⟩ = some v2) (f2 : w.frozen? ⟨b, 2, none⟩ = false) (c3 : w.cell? ⟨b, 3, none⟩ = some v3) (f3 : w.frozen? ⟨b, 3, none⟩ = false) (c4 : w.cell? ⟨b, 4, none⟩ = some v4) (f4 : w.frozen? ⟨b, 4, none⟩ = false) (c5 : w.cell? ⟨b, 5, none⟩ = some v5) (f5 : w.frozen? ⟨b, 5, none⟩ = false) (c6 : w.cell? ⟨b, 6, none⟩ = some v6) (f6 : w.frozen? ⟨b, 6, none⟩ = false) (c7 : w.cell? ⟨b, 7, none⟩ = some v7) (f7 : w.frozen? ⟨b, 7, none⟩ = false) : Bx w b [v0, v1, v2, v3, v4, v5, v6, v7] :=
  (((bx5 h c0 f0 c1 f1 c2 f2 c3 f3 c4 f4).snoc 5 rfl c5 f5).snoc 6 rfl c6 f6).snoc 7 rfl c7 f7
/-- a contract whose numbers are small -/
structure Ctr.sm (x : Ctr) : Prop where
  sh : -2000000 ≤ x.sh ∧ x.sh ≤ 2000000
  en : -2000000 ≤ x.en ∧ x.en ≤ 2000000
  ex : -2000000 ≤ x.ex ∧ x.ex ≤ 2000000
  am : -2000000 ≤ x.am ∧ x.am ≤ 2000000
  cl : -2000000 ≤ x.cl ∧ x.cl ≤ 2000000
  fr : -2000000 ≤ x.fr ∧ x.fr ≤ 2000000
  tt : -2000000 ≤ x.to ∧ x.to ≤ 2000000
  pr : -2000000 ≤ x.pr ∧ x.pr ≤ 2000000
/-- what stays while the contract in box X is written: a draw, a write to the box -/
structure DK (w : World) (p X : Nat) (y : Ctr) (wr : World) : Prop where
  bx : Bx wr X y.cells
  sm : y.sm
  src : Src wr p
  kp : Keep (· = p) w wr
  b4 : Bx wr (w.heap.size + 1) [.int .i64 0, .int .i64 0, .int .i64 0, .int .i64 0, .int .i64 0, .int .i64 0, .int .i64 0, .int .i64 0]
  sX : w.heap.size + 1 < X
theorem DK.keep {w wr wr' : World} {p X : Nat} {y : Ctr} (h : DK w p X y wr) (hp : p < w.heap.size) (hk : Keep (· = p) wr wr') (hs : Src wr' p) : DK w p X y wr' :=
  ⟨h.bx.keep hk (by have := h.sX; omega), h.sm, hs, h.kp.trans hk, h.b4.keep hk (by omega), h.sX⟩
theorem DK.below {w wr wr' : World} {p X : Nat} {y : Ctr} (h : DK w p X y wr) (hb : Below wr.heap.size wr wr') : DK w p X y wr' :=
  ⟨h.bx.below hb h.bx.lt, h.sm, h.src.below hb, h.kp.trans (Keep.of_below _ hb), h.b4.below hb h.b4.lt, h.sX⟩
theorem DK.put {w wr wr' : World} {p X : Nat} {y y' : Ctr} (h : DK w p X y wr) (hp : p < w.heap.size) (hk : Keep (· = X) wr wr') (hb : Bx wr' X y'.cells) (hs : y'.sm) : DK w p X y' wr' := by
  have hX := h.sX
  have hz := h.kp.size
  refine ⟨hb, hs, h.src.high (B := p + 1) ⟨hk.os, hk.tape, hk.output, hk.size, fun k q => hk.block k (by omega) (by omega)⟩ (by omega), ?_, h.b4.keep hk (by omega), hX⟩
  exact ⟨hk.os.trans h.kp.os, hk.tape.trans h.kp.tape, hk.output.trans h.kp.output, Nat.le_trans h.kp.size hk.size, fun k h1 h2 => (hk.block k (by omega) (by omega)).trans (h.kp.block k h1 h2)⟩
theorem DK.put2 {w wr wr' : World} {p X : Nat} {y y' : Ctr} (h : DK w p X y wr) (hp : p < w.heap.size) (hk : Keep (fun k => k = p ∨ k = X) wr wr') (hs : Src wr' p) (hb : Bx wr' X y'.cells) (hsm : y'.sm) : DK w p X y' wr' := by
  have hX := h.sX
  exact ⟨hb, hsm, hs, h.kp.to hk (by omega), h.b4.keep hk (by omega), hX⟩
theorem pick2_sm {a b : Int} (ha : -2000000 ≤ a ∧ a ≤ 2000000) (hb : -2000000 ≤ b ∧ b ≤ 2000000) : ∀ {k : Nat}, k < 2 → -2000000 ≤ pick [a, b] k ∧ pick [a, b] k ≤ 2000000
  | 0, _ => ha
  | 1, _ => hb
  | k + 2, h => by omega
theorem pick3_sm {a b c : Int} (ha : -2000000 ≤ a ∧ a ≤ 2000000) (hb : -2000000 ≤ b ∧ b ≤ 2000000) (hc : -2000000 ≤ c ∧ c ≤ 2000000) : ∀ {k : Nat}, k < 3 → -2000000 ≤ pick [a, b, c] k ∧ pick [a, b, c] k ≤ 2000000
  | 0, _ => ha
  | 1, _ => hb
  | 2, _ => hc
  | k + 3, h => by omega
theorem pickC2 (a b : Int) : ∀ k : Nat, k < 2 → (#[Value.int .i64 a, Value.int .i64 b] : Array Value)[k]? = some (.int .i64 (pick [a, b] k))
  | 0, _ => rfl
  | 1, _ => rfl
  | k + 2, h => by omega
theorem litC2 (w : World) (t : TypeId) (a b : Int) (k : Nat) (h : k < 2) : (w.alloc (.cells #[Value.int .i64 a, Value.int .i64 b] t)).cell? ⟨w.heap.size, k, none⟩ = some (.int .i64 (pick [a, b] k)) := by
  refine Eq.trans ?_ (pickC2 a b k h)
  simp
theorem litC3 (w : World) (t : TypeId) (a b c : Int) (k : Nat) (h : k < 3) : (w.alloc (.cells #[Value.int .i64 a, Value.int .i64 b, Value.int .i64 c] t)).cell? ⟨w.heap.size, k, none⟩ = some (.int .i64 (pick [a, b, c] k)) := litA3 w t a b c k h
theorem tmod_sm (a : Int) (M : Nat) (h0 : 0 ≤ a) (h1 : a ≤ 1000) : -2000000 ≤ a.tmod M ∧ a.tmod M ≤ 2000000 := by
  obtain ⟨n, rfl⟩ := Int.eq_ofNat_of_zero_le h0
  rw [← Int.ofNat_tmod]
  have := Nat.mod_le n M
  omega
set_option maxRecDepth 100000 in
set_option maxHeartbeats 8000000 in
theorem spec_l20DrawOne (p : Nat) (A B : Option Addr) (n c m d : Nat) (w : World) (h : Src w p) (hn : n ≤ 7) :
    Calls Tryz.prog 40 #[.pointer (some ⟨p, 0, none⟩), netV A B n c m d] w fun e w' => ∃ y : Ctr, e = .returned y.val ∧ y.sm ∧ Src w' p ∧ Keep (· = p) w w' := by
  have hp := h.lt
  have HS := Lib.hid h
  clear h
  go_enter Tryz.func40, Tryz.ntmps40
  go_upto_region 1 with (fail)
  have HB4 := Lib.hid (show Bx ((w.alloc (.cells #[.slice A n c, .slice B m d] 34)).alloc (.cells #[.int .i64 0, .int .i64 0, .int .i64 0, .int .i64 0, .int .i64 0, .int .i64 0, .int .i64 0, .int .i64 0] 25)) (w.heap.size + 1) [.int .i64 0, .int .i64 0, .int .i64 0, .int .i64 0, .int .i64 0, .int .i64 0, .int .i64 0, .int .i64 0] from bx8 (by simp) (by simp) (by simp) (by simp) (by simp) (by simp) (by simp) (by simp) (by simp) (by simp) (by simp) (by simp) (by simp) (by simp) (by simp) (by simp) (by simp))
  have HK0 := Lib.hid (show Keep (· = p) w ((w.alloc (.cells #[.slice A n c, .slice B m d] 34)).alloc (.cells #[.int .i64 0, .int .i64 0, .int .i64 0, .int .i64 0, .int .i64 0, .int .i64 0, .int .i64 0, .int .i64 0] 25)) by (repeat' (first | (with_reducible exact Keep.refl _ _) | (with_reducible assumption) | (with_reducible refine Keep.alloc ?_ _) | (with_reducible refine Keep.drew ?_) | (with_reducible refine Keep.drewN ?_ _) | (refine Keep.trans ?_ (by with_reducible assumption)) | (refine Keep.via ?_ (by with_reducible assumption)) | (with_reducible refine Keep.new ?_ ?_ _) | go_size)))
  have HS0 := Lib.hid (show Src ((w.alloc (.cells #[.slice A n c, .slice B m d] 34)).alloc (.cells #[.int .i64 0, .int .i64 0, .int .i64 0, .int .i64 0, .int .i64 0, .int .i64 0, .int .i64 0, .int .i64 0] 25)) p from HS.out.below (by (repeat' (first | (with_reducible exact Below.refl _ _) | (with_reducible assumption) | (with_reducible refine Below.alloc ?_ ?_ _) | (with_reducible refine Below.drew ?_) | (with_reducible refine Below.drewN' ?_ _) | (with_reducible refine Below.setCell ?_ ?_ _) | (refine Below.via ?_ (by with_reducible assumption) ?_) | (with_reducible refine Below.via ?_ (Wd.h _) ?_) | go_size))))
  go_cut [5] (fun s5 wx => ∃ M : Nat, s5 = .int .i64 M ∧ 1 ≤ M ∧ M ≤ 7 ∧ Bx wx (w.heap.size + 1) [.int .i64 0, .int .i64 0, .int .i64 0, .int .i64 0, .int .i64 0, .int .i64 0, .int .i64 0, .int .i64 0] ∧ Keep (· = p) w wx ∧ Src wx p)
  case first =>
    go_wp2_with fail
    all_goals
      go_meet
      first
        | exact ⟨n, rfl, by omega, hn, HB4.out, HK0.out, HS0.out⟩
        | exact ⟨1, rfl, by omega, by omega, HB4.out, HK0.out, HS0.out⟩
  case rest =>
    obtain ⟨M, rfl, hM1, hM7, hB4, hK, hS⟩ := hcut
    have HK := Lib.hid hK
    have HB4' := Lib.hid hB4
    have HS' := Lib.hid hS
    have hsz0 := hK.size
    have hl4 := hB4.lt
    clear hK hB4 hS HB4 HK0 HS0 HS
    rename World => wz
    go_wp2_with fail
    refine (spec_l01Next p _ _ HS'.out (by omega)).mono ?_
    rintro e w1 ⟨r1, rfl, ra1, rz1, rb1, hs1, hk1⟩
    have rc1 : r1 < 61 := by by_cases h1 : ((4 : Nat) : Int) ≤ 1; (have := rz1 h1; omega); (have := rb1 (by omega); omega)
    have HS1 := Lib.hid hs1
    have HK1 := Lib.hid (HK.out.trans hk1)
    have HB1 := Lib.hid (HB4'.out.keep hk1 (by omega))
    clear rz1 rb1 hs1 hk1
    go_wp2_with fail
    refine (spec_l01Next p _ _ HS1.out (by omega)).mono ?_
    rintro e w2 ⟨r2, rfl, ra2, rz2, rb2, hs2, hk2⟩
    have rc2 : r2 < 61 := by by_cases h1 : ((M : Nat) : Int) ≤ 1; (have := rz2 h1; omega); (have := rb2 (by omega); omega)
    have HS2 := Lib.hid hs2
    have HK2 := Lib.hid (HK1.out.trans hk2)
    have HB2 := Lib.hid (HB1.out.keep hk2 (by omega))
    clear rz2 rb2 hs2 hk2
    go_wp2_with fail
    refine (spec_l01Next p _ _ HS2.out (by omega)).mono ?_
    rintro e w3 ⟨r3, rfl, ra3, rz3, rb3, hs3, hk3⟩
    have rc3 : r3 < 61 := by by_cases h1 : ((60 : Nat) : Int) ≤ 1; (have := rz3 h1; omega); (have := rb3 (by omega); omega)
    have HS3 := Lib.hid hs3
    have HK3 := Lib.hid (HK2.out.trans hk3)
    have HB3 := Lib.hid (HB2.out.keep hk3 (by omega))
    clear rz3 rb3 hs3 hk3
    go_wp2_with fail
    refine (spec_l01Next p _ _ HS3.out (by omega)).mono ?_
    rintro e w4 ⟨r4, rfl, ra4, rz4, rb4, hs4, hk4⟩
    have rc4 : r4 < 61 := by by_cases h1 : ((4 : Nat) : Int) ≤ 1; (have := rz4 h1; omega); (have := rb4 (by omega); omega)
    have HS4 := Lib.hid hs4
    have HK4 := Lib.hid (HK3.out.trans hk4)
    have HB4 := Lib.hid (HB3.out.keep hk4 (by omega))
    clear rz4 rb4 hs4 hk4
    go_wp2_with fail
    refine (spec_l01Next p _ _ HS4.out (by omega)).mono ?_
    rintro e w5 ⟨r5, rfl, ra5, rz5, rb5, hs5, hk5⟩
    have rc5 : r5 < 61 := by by_cases h1 : ((6 : Nat) : Int) ≤ 1; (have := rz5 h1; omega); (have := rb5 (by omega); omega)
    have HS5 := Lib.hid hs5
    have HK5 := Lib.hid (HK4.out.trans hk5)
    have HB5 := Lib.hid (HB4.out.keep hk5 (by omega))
    clear rz5 rb5 hs5 hk5
    go_wp2_with fail
    refine (spec_l01Next p _ _ HS5.out (by omega)).mono ?_
    rintro e w6 ⟨r6, rfl, ra6, rz6, rb6, hs6, hk6⟩
    have rc6 : r6 < 61 := by by_cases h1 : ((20 : Nat) : Int) ≤ 1; (have := rz6 h1; omega); (have := rb6 (by omega); omega)
    have HS6 := Lib.hid hs6
    have HK6 := Lib.hid (HK5.out.trans hk6)
    have HB6 := Lib.hid (HB5.out.keep hk6 (by omega))
    clear rz6 rb6 hs6 hk6
    go_wp2_with fail
    generalize hW : World.alloc w6 _ = w7
    have HD := Lib.hid (show DK w p w6.heap.size ⟨r1, r2, 0, 1 + r3, r4, r5, 0, r6⟩ w7 from
      ⟨by rw [← hW]; exact bx8 (by simp) (by simp) (by simp) (by simp) (by simp) (by simp) (by simp) (by simp) (by simp) (by simp) (by simp) (by simp) (by simp) (by simp) (by simp) (by simp) (by simp), ⟨by dsimp only; omega, by dsimp only; omega, by dsimp only; omega, by dsimp only; omega, by dsimp only; omega, by dsimp only; omega, by dsimp only; omega, by dsimp only; omega⟩, by rw [← hW]; exact HS6.out.below (by (repeat' (first | (with_reducible exact Below.refl _ _) | (with_reducible assumption) | (with_reducible refine Below.alloc ?_ ?_ _) | (with_reducible refine Below.drew ?_) | (with_reducible refine Below.drewN' ?_ _) | (with_reducible refine Below.setCell ?_ ?_ _) | (refine Below.via ?_ (by with_reducible assumption) ?_) | (with_reducible refine Below.via ?_ (Wd.h _) ?_) | go_size))), by rw [← hW]; exact HK6.out.trans (Keep.of_below _ (by (repeat' (first | (with_reducible exact Below.refl _ _) | (with_reducible assumption) | (with_reducible refine Below.alloc ?_ ?_ _) | (with_reducible refine Below.drew ?_) | (with_reducible refine Below.drewN' ?_ _) | (with_reducible refine Below.setCell ?_ ?_ _) | (refine Below.via ?_ (by with_reducible assumption) ?_) | (with_reducible refine Below.via ?_ (Wd.h _) ?_) | go_size)))), by rw [← hW]; exact HB6.out.below (Below.alloc (Below.refl _ _) (Nat.le_refl _) _) HB6.out.lt, by have := HB6.out.lt; omega⟩)
    have hX7 := HD.out.bx.lt
    have hsX := HD.out.sX
    clear hW HS6 HK6 HB6
    generalize w6.heap.size = X at *
    go_wp2_with fail
    refine wp_region_tb (R := Zr) [some 26, some 27, some 28, some 29, some 30, some 31, some 32, some 33, some 34, some 35, some 36, none] _ (by intro u; simp only [frs, Act.put, List.setIfInBounds_toArray, List.set_cons_zero, List.set_cons_succ, Nat.reduceAdd]; exact rfl) (fun ρ j => ([.pointer (some ⟨X, 1, none⟩), .int .i64 r2, .int .i64 (r2 + 1), .pointer (some ⟨p, 0, none⟩), .int .i64 (M : Int), .int .i64 ((M : Int) - 1), .int .i64 (ρ.r 6), .int .i64 (r2 + 1 + ρ.r 6), .int .i64 (M : Int), .int .i64 ((r2 + 1 + ρ.r 6).tmod M), .pointer (some ⟨X, 2, none⟩), undef] : List Value).getD j undef) (WZ p (fun k => k = X) [(6, 8)] [] 11 (fun wt => Bx wt X (Ctr.cells ⟨r1, r2, 0, 1 + r3, r4, r5, 0, r6⟩)) (fun _ wt => ∃ v : Int, -2000000 ≤ v ∧ v ≤ 2000000 ∧ Src wt p ∧ Bx wt X (Ctr.cells ⟨r1, r2, v, 1 + r3, r4, r5, 0, r6⟩)) w7) (by kernel_rfl) (by kernel_rfl) Zr.zero (WZ.start (Keep.of_below _ (Below.drew (Below.refl _ _))) (HD.out.src.below (Below.drew (Below.refl _ _))) (HD.out.bx.below (Below.drew (Below.refl w7.heap.size _)) HD.out.bx.lt)) ?_ ?_
    · intro ii hii L ρ u wx hl hp hc hu hn hW
      have hii : ii < 12 := hii
      have HNo := Lib.hid hn
      clear hn
      have hii : ii = 0 ∨ ii = 1 ∨ ii = 2 ∨ ii = 3 ∨ ii = 4 ∨ ii = 5 ∨ ii = 6 ∨ ii = 7 ∨ ii = 8 ∨ ii = 9 ∨ ii = 10 ∨ ii = 11 := by omega
      rcases hii with rfl | rfl | rfl | rfl | rfl | rfl | rfl | rfl | rfl | rfl | rfl | rfl
      · refine wpOp_go (E := True) rfl rfl (fun K' hK => ?_)
        go_simp
        refine hK.out _ _ ⟨ρ, (by simp only [put]; rfl), fun _ _ => rfl, hW.pure rfl rfl (by omega)⟩
      · have e0 : u 0 = .pointer (some ⟨X, 1, none⟩) := hu 0 (all_of hp (by kernel_rfl))
        have xx0 := (hW.t0 (no_later (i := 9) hc (no_later (i := 7) hc (no_later (i := 2) hc (no_later hc hl (by kernel_rfl)) (by kernel_rfl)) (by kernel_rfl)) (by kernel_rfl))).cell 1 rfl
        refine wpOp_go (E := True) rfl rfl (fun K' hK => ?_)
        go_simp
        refine hK.out _ _ ⟨ρ, (by simp only [put, e0]; rfl), fun _ _ => rfl, hW.pure rfl rfl (by omega)⟩
      · have e1 : u 1 = .int .i64 r2 := hu 1 (all_of hp (by kernel_rfl))
        have hwr2 := IntWalk.i64_in (r2 + 1) ⟨by omega, by omega⟩
        refine wpOp_go (E := True) rfl rfl (fun K' hK => ?_)
        go_simp
        refine hK.out _ _ ⟨ρ, (by simp only [put, e1, hwr2]; rfl), fun _ _ => rfl, hW.pure rfl rfl (by omega)⟩
      · refine wpOp_go (E := True) rfl rfl (fun K' hK => ?_)
        go_simp
        refine hK.out _ _ ⟨ρ, (by simp only [put]; rfl), fun _ _ => rfl, hW.pure rfl rfl (by omega)⟩
      · refine wpOp_go (E := True) rfl rfl (fun K' hK => ?_)
        go_simp
        refine hK.out _ _ ⟨ρ, (by simp only [put]; rfl), fun _ _ => rfl, hW.pure rfl rfl (by omega)⟩
      · have e4 : u 4 = .int .i64 (M : Int) := hu 4 (all_of hp (by kernel_rfl))
        have hwr5 := IntWalk.i64_in ((M : Int) - 1) ⟨by omega, by omega⟩
        refine wpOp_go (E := True) rfl rfl (fun K' hK => ?_)
        go_simp
        refine hK.out _ _ ⟨ρ, (by simp only [put, e4, hwr5]; rfl), fun _ _ => rfl, hW.pure rfl rfl (by omega)⟩
      · have e3 : u 3 = .pointer (some ⟨p, 0, none⟩) := hu 3 (all_of hp (by kernel_rfl))
        have e5 : u 5 = .int .i64 ((M : Int) - 1) := hu 5 (all_of hp (by kernel_rfl))
        have nks : L 11 = false := no_later hc hl (by kernel_rfl)
        refine wpOp_go (E := True) rfl rfl (fun K' hK => ?_)
        go_simp
        go_at_call 23
        refine (spec_l01Next _ _ _ (hW.sr nks) (by omega)).mono ?_
        rintro e' w5 ⟨r, rfl, ra, rz, rb, hs5, hk5⟩
        have rc : r < 8 := by by_cases h1 : ((M : Int) - 1) ≤ 1; (have := rz h1; omega); (have := rb (by omega); omega)
        refine hK.out _ _ ⟨ρ.drawn 6 r, (by simp only [put, e3, e5]; rfl), fun j hj => by
            have n7 : L 7 = false := no_later hc hl (by kernel_rfl)
            have n9 : L 9 = false := no_later hc n7 (by kernel_rfl)
            have n11 : L 11 = false := no_later hc n9 (by kernel_rfl)
            match j, hj with
            | 0, _ => rfl
            | 1, _ => rfl
            | 2, _ => rfl
            | 3, _ => rfl
            | 4, _ => rfl
            | 5, _ => rfl
            | 6, hj => rw [hl] at hj; cases hj
            | 7, hj => rw [n7] at hj; cases hj
            | 8, _ => rfl
            | 9, hj => rw [n9] at hj; cases hj
            | 10, _ => rfl
            | 11, hj => rw [n11] at hj; cases hj
            | _ + 12, _ => rfl, hW.call rfl (by omega) nks (by omega) hk5 hs5 (fun h1 => h1.keep hk5 (by omega)) (by intro n hn; simp at hn; omega)⟩
      · have e2 : u 2 = .int .i64 (r2 + 1) := hu 2 (all_of hp (by kernel_rfl))
        have e6 : u 6 = .int .i64 (ρ.r 6) := hu 6 (all_of hp (by kernel_rfl))
        obtain ⟨ra6, rb6⟩ := hW.dr 6 (8) (by simp) (all_of hp (by kernel_rfl))
        have hwr7 := IntWalk.i64_in (r2 + 1 + ρ.r 6) ⟨by omega, by omega⟩
        refine wpOp_go (E := True) rfl rfl (fun K' hK => ?_)
        go_simp
        refine hK.out _ _ ⟨ρ, (by simp only [put, e2, e6, hwr7]; rfl), fun _ _ => rfl, hW.pure rfl rfl (by omega)⟩
      · refine wpOp_go (E := True) rfl rfl (fun K' hK => ?_)
        go_simp
        refine hK.out _ _ ⟨ρ, (by simp only [put]; rfl), fun _ _ => rfl, hW.pure rfl rfl (by omega)⟩
      · have e7 : u 7 = .int .i64 (r2 + 1 + ρ.r 6) := hu 7 (all_of hp (by kernel_rfl))
        have e8 : u 8 = .int .i64 (M : Int) := hu 8 (all_of hp (by kernel_rfl))
        obtain ⟨ra6, rb6⟩ := hW.dr 6 (8) (by simp) (all_of (hc 7 (all_of hp (by kernel_rfl))) (by kernel_rfl))
        obtain ⟨rr1, rr2⟩ := hW.dr 6 8 (by simp) (all_of (hc 7 (all_of hp (by kernel_rfl))) (by kernel_rfl))
        have hM0 : ¬ (M = 0) := by omega
        have hrm := tmod_sm (r2 + 1 + ρ.r 6) M (by omega) (by omega)
        have hwr9 := IntWalk.i64_in ((r2 + 1 + ρ.r 6).tmod M) ⟨by omega, by omega⟩
        refine wpOp_go (E := True) rfl rfl (fun K' hK => ?_)
        go_simp
        refine hK.out _ _ ⟨ρ, (by simp only [put, e7, e8, hwr9]; rfl), fun _ _ => rfl, hW.pure rfl rfl (by omega)⟩
      · refine wpOp_go (E := True) rfl rfl (fun K' hK => ?_)
        go_simp
        refine hK.out _ _ ⟨ρ, (by simp only [put]; rfl), fun _ _ => rfl, hW.pure rfl rfl (by omega)⟩
      · have e10 : u 10 = .pointer (some ⟨X, 2, none⟩) := hu 10 (all_of hp (by kernel_rfl))
        have e9 : u 9 = .int .i64 ((r2 + 1 + ρ.r 6).tmod M) := hu 9 (all_of hp (by kernel_rfl))
        obtain ⟨ra6, rb6⟩ := hW.dr 6 (8) (by simp) (all_of (hc 7 (all_of (hc 9 (all_of hp (by kernel_rfl))) (by kernel_rfl))) (by kernel_rfl))
        obtain ⟨rr1, rr2⟩ := hW.dr 6 8 (by simp) (all_of (hc 7 (all_of (hc 9 (all_of hp (by kernel_rfl))) (by kernel_rfl))) (by kernel_rfl))
        have hrm := tmod_sm (r2 + 1 + ρ.r 6) M (by omega) (by omega)
        have hb0 := hW.t0 hl
        have hyX := hb0.lt
        have xx0 := hb0.cell 0 rfl
        have xx1 := hb0.cell 1 rfl
        have xx2 := hb0.cell 2 rfl
        have xx3 := hb0.cell 3 rfl
        have xx4 := hb0.cell 4 rfl
        have xx5 := hb0.cell 5 rfl
        have xx6 := hb0.cell 6 rfl
        have xx7 := hb0.cell 7 rfl
        have xf0 := hb0.frozen 0 rfl
        have xf1 := hb0.frozen 1 rfl
        have xf2 := hb0.frozen 2 rfl
        have xf3 := hb0.frozen 3 rfl
        have xf4 := hb0.frozen 4 rfl
        have xf5 := hb0.frozen 5 rfl
        have xf6 := hb0.frozen 6 rfl
        have xf7 := hb0.frozen 7 rfl
        clear hb0
        refine wpOp_go (E := True) rfl rfl (fun K' hK => ?_)
        go_simp
        refine hK.out _ _ ⟨ρ, (by simp only [put, e10, e9]; rfl), fun _ _ => rfl, hW.store rfl rfl (by intro k q; omega) ((((Keep.refl (· = X) _).one _)).wide fun k q => Or.inr q) ⟨_, hrm.1, hrm.2, (hW.sr hl).high (B := p + 1) (by (repeat' (first | (with_reducible exact Below.refl _ _) | (with_reducible assumption) | (with_reducible refine Below.alloc ?_ ?_ _) | (with_reducible refine Below.drew ?_) | (with_reducible refine Below.drewN' ?_ _) | (with_reducible refine Below.setCell ?_ ?_ _) | (refine Below.via ?_ (by with_reducible assumption) ?_) | (with_reducible refine Below.via ?_ (Wd.h _) ?_) | go_size))) (by omega), bx8 (by simp; omega) (by simp [go_sem, xx0, xx1, xx2, xx3, xx4, xx5, xx6, xx7]) (by simp [go_sem, xf0]) (by simp [go_sem, xx0, xx1, xx2, xx3, xx4, xx5, xx6, xx7]) (by simp [go_sem, xf1]) (by simp [go_sem, xx0, xx1, xx2, xx3, xx4, xx5, xx6, xx7]) (by simp [go_sem, xf2]) (by simp [go_sem, xx0, xx1, xx2, xx3, xx4, xx5, xx6, xx7]) (by simp [go_sem, xf3]) (by simp [go_sem, xx0, xx1, xx2, xx3, xx4, xx5, xx6, xx7]) (by simp [go_sem, xf4]) (by simp [go_sem, xx0, xx1, xx2, xx3, xx4, xx5, xx6, xx7]) (by simp [go_sem, xf5]) (by simp [go_sem, xx0, xx1, xx2, xx3, xx4, xx5, xx6, xx7]) (by simp [go_sem, xf6]) (by simp [go_sem, xx0, xx1, xx2, xx3, xx4, xx5, xx6, xx7]) (by simp [go_sem, xf7])⟩⟩
    · intro L ρ u wx hall hu hW
      obtain ⟨v, hv1, hv2, hsv, hbv⟩ := hW.t1 (hall 11 (by show 11 < 12; omega))
      have HD8 := Lib.hid (HD.out.put2 (y' := ⟨r1, r2, v, 1 + r3, r4, r5, 0, r6⟩) hp hW.kp hsv hbv (by have h := HD.out.sm; exact ⟨h.sh, h.en, ⟨hv1, hv2⟩, h.am, h.cl, h.fr, h.tt, h.pr⟩))
      have hzzw8 := hW.kp.size
      clear hu hall hW hv1 hv2 hsv hbv HD
      rename World => w8
      obtain ⟨x, rfl⟩ : ∃ x, x = v := ⟨v, rfl⟩
      go_wp2_with fail
      refine wp_region_tb (R := Zr) [some 37, some 38, some 39, some 40, some 41, some 42, none] _ (by intro u; simp only [frs, Act.put, List.setIfInBounds_toArray, List.set_cons_zero, List.set_cons_succ, Nat.reduceAdd]; exact rfl) (fun ρ j => ([.pointer (some ⟨X, 5, none⟩), .int .i64 r5, .pointer (some ⟨p, 0, none⟩), .int .i64 (ρ.r 3), .int .i64 (r5 + ρ.r 3), .pointer (some ⟨X, 6, none⟩), undef] : List Value).getD j undef) (WZ p (fun k => k = X) [(3, 12)] [] 6 (fun wt => Bx wt X (Ctr.cells ⟨r1, r2, x, 1 + r3, r4, r5, 0, r6⟩)) (fun _ wt => ∃ v : Int, -2000000 ≤ v ∧ v ≤ 2000000 ∧ Src wt p ∧ Bx wt X (Ctr.cells ⟨r1, r2, x, 1 + r3, r4, r5, v, r6⟩)) w8) (by kernel_rfl) (by kernel_rfl) Zr.zero (WZ.start (Keep.of_below _ (Below.drew (Below.refl _ _))) (HD8.out.src.below (Below.drew (Below.refl _ _))) (HD8.out.bx.below (Below.drew (Below.refl w8.heap.size _)) HD8.out.bx.lt)) ?_ ?_
      · intro ii hii L ρ u wx hl hp hc hu hn hW
        have hii : ii < 7 := hii
        have HNo := Lib.hid hn
        clear hn
        have hii : ii = 0 ∨ ii = 1 ∨ ii = 2 ∨ ii = 3 ∨ ii = 4 ∨ ii = 5 ∨ ii = 6 := by omega
        rcases hii with rfl | rfl | rfl | rfl | rfl | rfl | rfl
        · refine wpOp_go (E := True) rfl rfl (fun K' hK => ?_)
          go_simp
          refine hK.out _ _ ⟨ρ, (by simp only [put]; rfl), fun _ _ => rfl, hW.pure rfl rfl (by omega)⟩
        · have e0 : u 0 = .pointer (some ⟨X, 5, none⟩) := hu 0 (all_of hp (by kernel_rfl))
          have xx0 := (hW.t0 (no_later (i := 4) hc (no_later hc hl (by kernel_rfl)) (by kernel_rfl))).cell 5 rfl
          refine wpOp_go (E := True) rfl rfl (fun K' hK => ?_)
          go_simp
          refine hK.out _ _ ⟨ρ, (by simp only [put, e0]; rfl), fun _ _ => rfl, hW.pure rfl rfl (by omega)⟩
        · refine wpOp_go (E := True) rfl rfl (fun K' hK => ?_)
          go_simp
          refine hK.out _ _ ⟨ρ, (by simp only [put]; rfl), fun _ _ => rfl, hW.pure rfl rfl (by omega)⟩
        · have e2 : u 2 = .pointer (some ⟨p, 0, none⟩) := hu 2 (all_of hp (by kernel_rfl))
          have nks : L 6 = false := no_later hc hl (by kernel_rfl)
          refine wpOp_go (E := True) rfl rfl (fun K' hK => ?_)
          go_simp
          go_at_call 23
          refine (spec_l01Next _ _ _ (hW.sr nks) (by omega)).mono ?_
          rintro e' w5 ⟨r, rfl, ra, _, rb, hs5, hk5⟩
          have rc := rb (by omega)
          refine hK.out _ _ ⟨ρ.drawn 3 r, (by simp only [put, e2]; rfl), fun j hj => by
              have n4 : L 4 = false := no_later hc hl (by kernel_rfl)
              have n6 : L 6 = false := no_later hc n4 (by kernel_rfl)
              match j, hj with
              | 0, _ => rfl
              | 1, _ => rfl
              | 2, _ => rfl
              | 3, hj => rw [hl] at hj; cases hj
              | 4, hj => rw [n4] at hj; cases hj
              | 5, _ => rfl
              | 6, hj => rw [n6] at hj; cases hj
              | _ + 7, _ => rfl, hW.call rfl (by omega) nks (by omega) hk5 hs5 (fun h1 => h1.keep hk5 (by omega)) (by intro n hn; simp at hn; omega)⟩
        · have e1 : u 1 = .int .i64 r5 := hu 1 (all_of hp (by kernel_rfl))
          have e3 : u 3 = .int .i64 (ρ.r 3) := hu 3 (all_of hp (by kernel_rfl))
          obtain ⟨ra3, rb3⟩ := hW.dr 3 (12) (by simp) (all_of hp (by kernel_rfl))
          have hwr4 := IntWalk.i64_in (r5 + ρ.r 3) ⟨by omega, by omega⟩
          refine wpOp_go (E := True) rfl rfl (fun K' hK => ?_)
          go_simp
          refine hK.out _ _ ⟨ρ, (by simp only [put, e1, e3, hwr4]; rfl), fun _ _ => rfl, hW.pure rfl rfl (by omega)⟩
        · refine wpOp_go (E := True) rfl rfl (fun K' hK => ?_)
          go_simp
          refine hK.out _ _ ⟨ρ, (by simp only [put]; rfl), fun _ _ => rfl, hW.pure rfl rfl (by omega)⟩
        · have e5 : u 5 = .pointer (some ⟨X, 6, none⟩) := hu 5 (all_of hp (by kernel_rfl))
          have e4 : u 4 = .int .i64 (r5 + ρ.r 3) := hu 4 (all_of hp (by kernel_rfl))
          obtain ⟨ra3, rb3⟩ := hW.dr 3 (12) (by simp) (all_of (hc 4 (all_of hp (by kernel_rfl))) (by kernel_rfl))
          obtain ⟨rr1, rr2⟩ := hW.dr 3 12 (by simp) (all_of (hc 4 (all_of hp (by kernel_rfl))) (by kernel_rfl))
          have hb0 := hW.t0 hl
          have hyX := hb0.lt
          have xx0 := hb0.cell 0 rfl
          have xx1 := hb0.cell 1 rfl
          have xx2 := hb0.cell 2 rfl
          have xx3 := hb0.cell 3 rfl
          have xx4 := hb0.cell 4 rfl
          have xx5 := hb0.cell 5 rfl
          have xx6 := hb0.cell 6 rfl
          have xx7 := hb0.cell 7 rfl
          have xf0 := hb0.frozen 0 rfl
          have xf1 := hb0.frozen 1 rfl
          have xf2 := hb0.frozen 2 rfl
          have xf3 := hb0.frozen 3 rfl
          have xf4 := hb0.frozen 4 rfl
          have xf5 := hb0.frozen 5 rfl
          have xf6 := hb0.frozen 6 rfl
          have xf7 := hb0.frozen 7 rfl
          clear hb0
          refine wpOp_go (E := True) rfl rfl (fun K' hK => ?_)
          go_simp
          refine hK.out _ _ ⟨ρ, (by simp only [put, e5, e4]; rfl), fun _ _ => rfl, hW.store rfl rfl (by intro k q; omega) ((((Keep.refl (· = X) _).one _)).wide fun k q => Or.inr q) ⟨r5 + ρ.r 3, (by omega), (by omega), (hW.sr hl).high (B := p + 1) (by (repeat' (first | (with_reducible exact Below.refl _ _) | (with_reducible assumption) | (with_reducible refine Below.alloc ?_ ?_ _) | (with_reducible refine Below.drew ?_) | (with_reducible refine Below.drewN' ?_ _) | (with_reducible refine Below.setCell ?_ ?_ _) | (refine Below.via ?_ (by with_reducible assumption) ?_) | (with_reducible refine Below.via ?_ (Wd.h _) ?_) | go_size))) (by omega), bx8 (by simp; omega) (by simp [go_sem, xx0, xx1, xx2, xx3, xx4, xx5, xx6, xx7]) (by simp [go_sem, xf0]) (by simp [go_sem, xx0, xx1, xx2, xx3, xx4, xx5, xx6, xx7]) (by simp [go_sem, xf1]) (by simp [go_sem, xx0, xx1, xx2, xx3, xx4, xx5, xx6, xx7]) (by simp [go_sem, xf2]) (by simp [go_sem, xx0, xx1, xx2, xx3, xx4, xx5, xx6, xx7]) (by simp [go_sem, xf3]) (by simp [go_sem, xx0, xx1, xx2, xx3, xx4, xx5, xx6, xx7]) (by simp [go_sem, xf4]) (by simp [go_sem, xx0, xx1, xx2, xx3, xx4, xx5, xx6, xx7]) (by simp [go_sem, xf5]) (by simp [go_sem, xx0, xx1, xx2, xx3, xx4, xx5, xx6, xx7]) (by simp [go_sem, xf6]) (by simp [go_sem, xx0, xx1, xx2, xx3, xx4, xx5, xx6, xx7]) (by simp [go_sem, xf7])⟩⟩
      · intro L ρ u wx hall hu hW
        obtain ⟨v, hv1, hv2, hsv, hbv⟩ := hW.t1 (hall 6 (by show 6 < 7; omega))
        have HD9 := Lib.hid (HD8.out.put2 (y' := ⟨r1, r2, x, 1 + r3, r4, r5, v, r6⟩) hp hW.kp hsv hbv (by have h := HD8.out.sm; exact ⟨h.sh, h.en, h.ex, h.am, h.cl, h.fr, ⟨hv1, hv2⟩, h.pr⟩))
        have hzzw9 := hW.kp.size
        clear hu hall hW hv1 hv2 hsv hbv HD8
        rename World => w9
        obtain ⟨tt, rfl⟩ : ∃ tt, tt = v := ⟨v, rfl⟩
        go_wp2_with fail
        refine (spec_l01Next p _ _ HD9.out.src (by omega)).mono ?_
        rintro e wA ⟨z, rfl, za, _, zb, hs4, hk4⟩
        have HDA := Lib.hid (HD9.out.keep hp hk4 hs4)
        have hzA := hk4.size
        clear hs4 hk4 zb HD9
        by_cases e0 : z = 0
        · subst e0
          go_wp2_with fail
          refine (spec_l01Next p _ _ (HDA.out.src.below (by (repeat' (first | (with_reducible exact Below.refl _ _) | (with_reducible assumption) | (with_reducible refine Below.alloc ?_ ?_ _) | (with_reducible refine Below.drew ?_) | (with_reducible refine Below.drewN' ?_ _) | (with_reducible refine Below.setCell ?_ ?_ _) | (refine Below.via ?_ (by with_reducible assumption) ?_) | (with_reducible refine Below.via ?_ (Wd.h _) ?_) | go_size)))) (by omega)).mono ?_
          rintro e w4 ⟨r, rfl, ra, _, rb, hs4, hk4⟩
          have rc := rb (by omega)
          have rn : r.toNat < 3 := by omega
          have hld := (hk4.cell wA.heap.size r.toNat (by simp) (by omega)).trans (litC3 wA 2 (-1) 15 16 r.toNat rn)
          have HDB := Lib.hid ((HDA.out.below (Below.alloc (Below.refl _ wA) (Nat.le_refl _) _)).keep hp hk4 hs4)
          have hz4 := hk4.size
          simp at hz4
          clear hs4 hk4 rb HDA
          have hb0 := HDB.out.bx
          have hy8 := hb0.lt; have cw8_0 := hb0.cell 0 rfl; have fw8_0 := hb0.frozen 0 rfl; have cw8_1 := hb0.cell 1 rfl; have fw8_1 := hb0.frozen 1 rfl; have cw8_2 := hb0.cell 2 rfl; have fw8_2 := hb0.frozen 2 rfl; have cw8_3 := hb0.cell 3 rfl; have fw8_3 := hb0.frozen 3 rfl; have cw8_4 := hb0.cell 4 rfl; have fw8_4 := hb0.frozen 4 rfl; have cw8_5 := hb0.cell 5 rfl; have fw8_5 := hb0.frozen 5 rfl; have cw8_6 := hb0.cell 6 rfl; have fw8_6 := hb0.frozen 6 rfl; have cw8_7 := hb0.cell 7 rfl; have fw8_7 := hb0.frozen 7 rfl
          clear hb0
          go_upto_region 16 with (fail)
          have HDF := Lib.hid (HDB.out.put2 (y' := ⟨pick [-1, 15, 16] r.toNat, r2, x, 1 + r3, r4, r5, tt, r6⟩) hp (wr' := w4.setCell ⟨X, 0, none⟩ (.int .i64 (pick [-1, 15, 16] r.toNat))) ((((Keep.refl (· = X) _).one _)).wide fun k q => Or.inr q) (HDB.out.src.high (B := p + 1) (by (repeat' (first | (with_reducible exact Below.refl _ _) | (with_reducible assumption) | (with_reducible refine Below.alloc ?_ ?_ _) | (with_reducible refine Below.drew ?_) | (with_reducible refine Below.drewN' ?_ _) | (with_reducible refine Below.setCell ?_ ?_ _) | (refine Below.via ?_ (by with_reducible assumption) ?_) | (with_reducible refine Below.via ?_ (Wd.h _) ?_) | go_size))) (by omega)) (bx8 (by simp; omega) (by simp [go_sem, cw8_0, cw8_1, cw8_2, cw8_3, cw8_4, cw8_5, cw8_6, cw8_7]) (by simp [go_sem, fw8_0]) (by simp [go_sem, cw8_0, cw8_1, cw8_2, cw8_3, cw8_4, cw8_5, cw8_6, cw8_7]) (by simp [go_sem, fw8_1]) (by simp [go_sem, cw8_0, cw8_1, cw8_2, cw8_3, cw8_4, cw8_5, cw8_6, cw8_7]) (by simp [go_sem, fw8_2]) (by simp [go_sem, cw8_0, cw8_1, cw8_2, cw8_3, cw8_4, cw8_5, cw8_6, cw8_7]) (by simp [go_sem, fw8_3]) (by simp [go_sem, cw8_0, cw8_1, cw8_2, cw8_3, cw8_4, cw8_5, cw8_6, cw8_7]) (by simp [go_sem, fw8_4]) (by simp [go_sem, cw8_0, cw8_1, cw8_2, cw8_3, cw8_4, cw8_5, cw8_6, cw8_7]) (by simp [go_sem, fw8_5]) (by simp [go_sem, cw8_0, cw8_1, cw8_2, cw8_3, cw8_4, cw8_5, cw8_6, cw8_7]) (by simp [go_sem, fw8_6]) (by simp [go_sem, cw8_0, cw8_1, cw8_2, cw8_3, cw8_4, cw8_5, cw8_6, cw8_7]) (by simp [go_sem, fw8_7])) (by have h := HDB.out.sm; exact ⟨pick3_sm ⟨by omega, by omega⟩ ⟨by omega, by omega⟩ ⟨by omega, by omega⟩ rn, h.en, h.ex, h.am, h.cl, h.fr, h.tt, h.pr⟩))
          clear hy8 cw8_0 fw8_0 cw8_1 fw8_1 cw8_2 fw8_2 cw8_3 fw8_3 cw8_4 fw8_4 cw8_5 fw8_5 cw8_6 fw8_6 cw8_7 fw8_7 HDB hld
          generalize World.setCell w4 _ _ = wF at *
          have hb0 := HDF.out.bx
          have hy8 := hb0.lt; have cw8_0 := hb0.cell 0 rfl; have fw8_0 := hb0.frozen 0 rfl; have cw8_1 := hb0.cell 1 rfl; have fw8_1 := hb0.frozen 1 rfl; have cw8_2 := hb0.cell 2 rfl; have fw8_2 := hb0.frozen 2 rfl; have cw8_3 := hb0.cell 3 rfl; have fw8_3 := hb0.frozen 3 rfl; have cw8_4 := hb0.cell 4 rfl; have fw8_4 := hb0.frozen 4 rfl; have cw8_5 := hb0.cell 5 rfl; have fw8_5 := hb0.frozen 5 rfl; have cw8_6 := hb0.cell 6 rfl; have fw8_6 := hb0.frozen 6 rfl; have cw8_7 := hb0.cell 7 rfl; have fw8_7 := hb0.frozen 7 rfl
          clear hb0
          have hb0 := HDF.out.b4
          have hy4 := hb0.lt; have cw4_0 := hb0.cell 0 rfl; have fw4_0 := hb0.frozen 0 rfl; have cw4_1 := hb0.cell 1 rfl; have fw4_1 := hb0.frozen 1 rfl; have cw4_2 := hb0.cell 2 rfl; have fw4_2 := hb0.frozen 2 rfl; have cw4_3 := hb0.cell 3 rfl; have fw4_3 := hb0.frozen 3 rfl; have cw4_4 := hb0.cell 4 rfl; have fw4_4 := hb0.frozen 4 rfl; have cw4_5 := hb0.cell 5 rfl; have fw4_5 := hb0.frozen 5 rfl; have cw4_6 := hb0.cell 6 rfl; have fw4_6 := hb0.frozen 6 rfl; have cw4_7 := hb0.cell 7 rfl; have fw4_7 := hb0.frozen 7 rfl
          clear hb0
          go_wp2
          refine bodyPost_ret (by simp [results, Tryz.results40, go_sem, cw4_0, cw4_1, cw4_2, cw4_3, cw4_4, cw4_5, cw4_6, cw4_7]; try rfl) rfl ?_
          have hsXF := HDF.out.sX
          exact ⟨_, rfl, HDF.out.sm, HDF.out.src.high (B := p + 1) (by (repeat' (first | (with_reducible exact Below.refl _ _) | (with_reducible assumption) | (with_reducible refine Below.alloc ?_ ?_ _) | (with_reducible refine Below.drew ?_) | (with_reducible refine Below.drewN' ?_ _) | (with_reducible refine Below.setCell ?_ ?_ _) | (refine Below.via ?_ (by with_reducible assumption) ?_) | (with_reducible refine Below.via ?_ (Wd.h _) ?_) | go_size))) (by omega), by have h1 := HDF.out.kp; (repeat' (first | (with_reducible exact Keep.refl _ _) | (with_reducible assumption) | (with_reducible refine Keep.alloc ?_ _) | (with_reducible refine Keep.drew ?_) | (with_reducible refine Keep.drewN ?_ _) | (refine Keep.trans ?_ (by with_reducible assumption)) | (refine Keep.via ?_ (by with_reducible assumption)) | (with_reducible refine Keep.new ?_ ?_ _) | go_size))⟩
        have n0 : (z == 0) = false := by simpa using e0
        by_cases e1 : z = 1
        · subst e1
          go_wp2_with fail
          refine wp_region_tb (R := Zr) [some 55, some 56, some 57, some 58, some 59, some 60, some 61, some 62, some 63, none] _ (by intro u; simp only [frs, Act.put, List.setIfInBounds_toArray, List.set_cons_zero, List.set_cons_succ, Nat.reduceAdd]; exact rfl) (fun ρ j => ([.pointer (some ⟨X, 5, none⟩), .int .i64 r5, .int .i64 (r5 - 1), .slice (some ⟨ρ.b 3, 0, none⟩) 3 3, .pointer (some ⟨p, 0, none⟩), .int .i64 (ρ.r 5), .pointer (some ⟨ρ.b 3, (ρ.r 5).toNat, none⟩), .int .i64 ((ρ.c 3).getD (ρ.r 5).toNat 0), .pointer (some ⟨X, 6, none⟩), undef] : List Value).getD j undef) (WZ p (fun k => k = X) [(5, 3)] [(3, 3, -1, 100)] 9 (fun wt => Bx wt X (Ctr.cells ⟨r1, r2, x, 1 + r3, r4, r5, tt, r6⟩)) (fun _ wt => ∃ v : Int, -2000000 ≤ v ∧ v ≤ 2000000 ∧ Src wt p ∧ Bx wt X (Ctr.cells ⟨r1, r2, x, 1 + r3, r4, r5, v, r6⟩)) wA) (by kernel_rfl) (by kernel_rfl) Zr.zero (WZ.start (Keep.of_below _ (Below.drew (Below.refl _ _))) (HDA.out.src.below (Below.drew (Below.refl _ _))) (HDA.out.bx.below (Below.drew (Below.refl wA.heap.size _)) HDA.out.bx.lt)) ?_ ?_
          · intro ii hii L ρ u wx hl hp hc hu hn hW
            have hii : ii < 10 := hii
            have HNo := Lib.hid hn
            clear hn
            have hii : ii = 0 ∨ ii = 1 ∨ ii = 2 ∨ ii = 3 ∨ ii = 4 ∨ ii = 5 ∨ ii = 6 ∨ ii = 7 ∨ ii = 8 ∨ ii = 9 := by omega
            rcases hii with rfl | rfl | rfl | rfl | rfl | rfl | rfl | rfl | rfl | rfl
            · refine wpOp_go (E := True) rfl rfl (fun K' hK => ?_)
              go_simp
              refine hK.out _ _ ⟨ρ, (by simp only [put]; rfl), fun _ _ => rfl, hW.pure rfl rfl (by omega)⟩
            · have e0 : u 0 = .pointer (some ⟨X, 5, none⟩) := hu 0 (all_of hp (by kernel_rfl))
              have xx0 := (hW.t0 (no_later (i := 7) hc (no_later (i := 6) hc (no_later (i := 3) hc (no_later (i := 2) hc (no_later hc hl (by kernel_rfl)) (by kernel_rfl)) (by kernel_rfl)) (by kernel_rfl)) (by kernel_rfl))).cell 5 rfl
              refine wpOp_go (E := True) rfl rfl (fun K' hK => ?_)
              go_simp
              refine hK.out _ _ ⟨ρ, (by simp only [put, e0]; rfl), fun _ _ => rfl, hW.pure rfl rfl (by omega)⟩
            · have e1 : u 1 = .int .i64 r5 := hu 1 (all_of hp (by kernel_rfl))
              have hwr2 := IntWalk.i64_in (r5 - 1) ⟨by omega, by omega⟩
              refine wpOp_go (E := True) rfl rfl (fun K' hK => ?_)
              go_simp
              refine hK.out _ _ ⟨ρ, (by simp only [put, e1, hwr2]; rfl), fun _ _ => rfl, hW.pure rfl rfl (by omega)⟩
            · have e2 : u 2 = .int .i64 (r5 - 1) := hu 2 (all_of hp (by kernel_rfl))
              refine wpOp_go (E := True) rfl rfl (fun K' hK => ?_)
              go_simp
              generalize hW5 : World.alloc wx _ = w5
              have hb5 : Below wx.heap.size wx w5 := by rw [← hW5]; (repeat' (first | (with_reducible exact Below.refl _ _) | (with_reducible assumption) | (with_reducible refine Below.alloc ?_ ?_ _) | (with_reducible refine Below.drew ?_) | (with_reducible refine Below.drewN' ?_ _) | (with_reducible refine Below.setCell ?_ ?_ _) | (refine Below.via ?_ (by with_reducible assumption) ?_) | (with_reducible refine Below.via ?_ (Wd.h _) ?_) | go_size))
              have hx5 : Bx w5 wx.heap.size (([r5 - 1, 47, 48] : List Int).map iV) := by rw [← hW5]; exact bx3 (by simp) (by simp) (by simp) (by simp) (by simp) (by simp) (by simp)
              clear hW5
              refine hK.out _ _ ⟨ρ.made 3 wx.heap.size [r5 - 1, 47, 48], (by simp only [put, e2]; rfl), fun j hj => by
                  have n6 : L 6 = false := no_later hc hl (by kernel_rfl)
                  have n7 : L 7 = false := no_later hc n6 (by kernel_rfl)
                  have n9 : L 9 = false := no_later hc n7 (by kernel_rfl)
                  match j, hj with
                  | 0, _ => rfl
                  | 1, _ => rfl
                  | 2, _ => rfl
                  | 3, hj => rw [hl] at hj; cases hj
                  | 4, _ => rfl
                  | 5, _ => rfl
                  | 6, hj => rw [n6] at hj; cases hj
                  | 7, hj => rw [n7] at hj; cases hj
                  | 8, _ => rfl
                  | 9, hj => rw [n9] at hj; cases hj
                  | _ + 10, _ => rfl, hW.made rfl (by omega) hb5 (fun h1 => h1.below hb5 h1.lt) (fun ⟨v, h1, h2, h3, h4⟩ => ⟨v, h1, h2, h3.below hb5, h4.below hb5 h4.lt⟩) hx5 (by intro k lo hi hm; simp at hm; obtain ⟨rfl, rfl, rfl⟩ := hm; refine ⟨rfl, fun x hx => ?_⟩; simp at hx; omega)⟩
            · refine wpOp_go (E := True) rfl rfl (fun K' hK => ?_)
              go_simp
              refine hK.out _ _ ⟨ρ, (by simp only [put]; rfl), fun _ _ => rfl, hW.pure rfl rfl (by omega)⟩
            · have e4 : u 4 = .pointer (some ⟨p, 0, none⟩) := hu 4 (all_of hp (by kernel_rfl))
              have nks : L 9 = false := no_later hc hl (by kernel_rfl)
              refine wpOp_go (E := True) rfl rfl (fun K' hK => ?_)
              go_simp
              go_at_call 23
              refine (spec_l01Next _ _ _ (hW.sr nks) (by omega)).mono ?_
              rintro e' w5 ⟨r, rfl, ra, _, rb, hs5, hk5⟩
              have rc := rb (by omega)
              refine hK.out _ _ ⟨ρ.drawn 5 r, (by simp only [put, e4]; rfl), fun j hj => by
                  have n6 : L 6 = false := no_later hc hl (by kernel_rfl)
                  have n7 : L 7 = false := no_later hc n6 (by kernel_rfl)
                  have n9 : L 9 = false := no_later hc n7 (by kernel_rfl)
                  match j, hj with
                  | 0, _ => rfl
                  | 1, _ => rfl
                  | 2, _ => rfl
                  | 3, _ => rfl
                  | 4, _ => rfl
                  | 5, hj => rw [hl] at hj; cases hj
                  | 6, hj => rw [n6] at hj; cases hj
                  | 7, hj => rw [n7] at hj; cases hj
                  | 8, _ => rfl
                  | 9, hj => rw [n9] at hj; cases hj
                  | _ + 10, _ => rfl, hW.call rfl (by omega) nks (by omega) hk5 hs5 (fun h1 => h1.keep hk5 (by omega)) (by intro n hn; simp at hn; omega)⟩
            · have e3 : u 3 = .slice (some ⟨ρ.b 3, 0, none⟩) 3 3 := hu 3 (all_of hp (by kernel_rfl))
              have e5 : u 5 = .int .i64 (ρ.r 5) := hu 5 (all_of hp (by kernel_rfl))
              obtain ⟨ra5, rb5⟩ := hW.dr 5 (3) (by simp) (all_of hp (by kernel_rfl))
              obtain ⟨pk1, -, -, -, -⟩ := hW.pick (i := 3) (j := 5) (k := 3) (lo := -1) (hi := 100) (n := 3) (by simp) (by simp) (by omega) (all_of hp (by kernel_rfl)) (all_of hp (by kernel_rfl))
              refine wpOp_go (E := True) rfl rfl (fun K' hK => ?_)
              go_simp
              refine hK.out _ _ ⟨ρ, (by simp only [put, e3, e5]; rfl), fun _ _ => rfl, hW.pure rfl rfl (by omega)⟩
            · have e6 : u 6 = .pointer (some ⟨ρ.b 3, (ρ.r 5).toNat, none⟩) := hu 6 (all_of hp (by kernel_rfl))
              obtain ⟨ra5, rb5⟩ := hW.dr 5 (3) (by simp) (all_of (hc 6 (all_of hp (by kernel_rfl))) (by kernel_rfl))
              obtain ⟨pk1, -, pk3, -, -⟩ := hW.pick (i := 3) (j := 5) (k := 3) (lo := -1) (hi := 100) (n := 3) (by simp) (by simp) (by omega) (all_of (hc 6 (all_of hp (by kernel_rfl))) (by kernel_rfl)) (all_of (hc 6 (all_of hp (by kernel_rfl))) (by kernel_rfl))
              have pk4 := (hW.md 3 3 (-1) (100) (by simp) (all_of (hc 6 (all_of hp (by kernel_rfl))) (by kernel_rfl))).2.cell (ρ.r 5).toNat (by rw [List.getElem?_map, pk3]; rfl)
              clear pk3
              refine wpOp_go (E := True) rfl rfl (fun K' hK => ?_)
              go_simp
              refine hK.out _ _ ⟨ρ, (by simp only [put, e6]; rfl), fun _ _ => rfl, hW.pure rfl rfl (by omega)⟩
            · refine wpOp_go (E := True) rfl rfl (fun K' hK => ?_)
              go_simp
              refine hK.out _ _ ⟨ρ, (by simp only [put]; rfl), fun _ _ => rfl, hW.pure rfl rfl (by omega)⟩
            · have e8 : u 8 = .pointer (some ⟨X, 6, none⟩) := hu 8 (all_of hp (by kernel_rfl))
              have e7 : u 7 = .int .i64 ((ρ.c 3).getD (ρ.r 5).toNat 0) := hu 7 (all_of hp (by kernel_rfl))
              obtain ⟨ra5, rb5⟩ := hW.dr 5 (3) (by simp) (all_of (hc 6 (all_of (hc 7 (all_of hp (by kernel_rfl))) (by kernel_rfl))) (by kernel_rfl))
              obtain ⟨pk1, -, -, pk4, pk5⟩ := hW.pick (i := 3) (j := 5) (k := 3) (lo := -1) (hi := 100) (n := 3) (by simp) (by simp) (by omega) (all_of (hc 6 (all_of (hc 7 (all_of hp (by kernel_rfl))) (by kernel_rfl))) (by kernel_rfl)) (all_of (hc 6 (all_of (hc 7 (all_of hp (by kernel_rfl))) (by kernel_rfl))) (by kernel_rfl))
              have hb0 := hW.t0 hl
              have hyX := hb0.lt
              have xx0 := hb0.cell 0 rfl
              have xx1 := hb0.cell 1 rfl
              have xx2 := hb0.cell 2 rfl
              have xx3 := hb0.cell 3 rfl
              have xx4 := hb0.cell 4 rfl
              have xx5 := hb0.cell 5 rfl
              have xx6 := hb0.cell 6 rfl
              have xx7 := hb0.cell 7 rfl
              have xf0 := hb0.frozen 0 rfl
              have xf1 := hb0.frozen 1 rfl
              have xf2 := hb0.frozen 2 rfl
              have xf3 := hb0.frozen 3 rfl
              have xf4 := hb0.frozen 4 rfl
              have xf5 := hb0.frozen 5 rfl
              have xf6 := hb0.frozen 6 rfl
              have xf7 := hb0.frozen 7 rfl
              clear hb0
              refine wpOp_go (E := True) rfl rfl (fun K' hK => ?_)
              go_simp
              refine hK.out _ _ ⟨ρ, (by simp only [put, e8, e7]; rfl), fun _ _ => rfl, hW.store rfl rfl (by intro k q; omega) ((((Keep.refl (· = X) _).one _)).wide fun k q => Or.inr q) ⟨(ρ.c 3).getD (ρ.r 5).toNat 0, (by omega), (by omega), (hW.sr hl).high (B := p + 1) (by (repeat' (first | (with_reducible exact Below.refl _ _) | (with_reducible assumption) | (with_reducible refine Below.alloc ?_ ?_ _) | (with_reducible refine Below.drew ?_) | (with_reducible refine Below.drewN' ?_ _) | (with_reducible refine Below.setCell ?_ ?_ _) | (refine Below.via ?_ (by with_reducible assumption) ?_) | (with_reducible refine Below.via ?_ (Wd.h _) ?_) | go_size))) (by omega), bx8 (by simp; omega) (by simp [go_sem, xx0, xx1, xx2, xx3, xx4, xx5, xx6, xx7]) (by simp [go_sem, xf0]) (by simp [go_sem, xx0, xx1, xx2, xx3, xx4, xx5, xx6, xx7]) (by simp [go_sem, xf1]) (by simp [go_sem, xx0, xx1, xx2, xx3, xx4, xx5, xx6, xx7]) (by simp [go_sem, xf2]) (by simp [go_sem, xx0, xx1, xx2, xx3, xx4, xx5, xx6, xx7]) (by simp [go_sem, xf3]) (by simp [go_sem, xx0, xx1, xx2, xx3, xx4, xx5, xx6, xx7]) (by simp [go_sem, xf4]) (by simp [go_sem, xx0, xx1, xx2, xx3, xx4, xx5, xx6, xx7]) (by simp [go_sem, xf5]) (by simp [go_sem, xx0, xx1, xx2, xx3, xx4, xx5, xx6, xx7]) (by simp [go_sem, xf6]) (by simp [go_sem, xx0, xx1, xx2, xx3, xx4, xx5, xx6, xx7]) (by simp [go_sem, xf7])⟩⟩
          · intro L ρ u wx hall hu hW
            obtain ⟨v, hv1, hv2, hsv, hbv⟩ := hW.t1 (hall 9 (by show 9 < 10; omega))
            have HDF := Lib.hid (HDA.out.put2 (y' := ⟨r1, r2, x, 1 + r3, r4, r5, v, r6⟩) hp hW.kp hsv hbv (by have h := HDA.out.sm; exact ⟨h.sh, h.en, h.ex, h.am, h.cl, h.fr, ⟨hv1, hv2⟩, h.pr⟩))
            clear hu hall hW hv1 hv2 hsv hbv HDA
            have hb0 := HDF.out.bx
            have hy8 := hb0.lt; have cw8_0 := hb0.cell 0 rfl; have fw8_0 := hb0.frozen 0 rfl; have cw8_1 := hb0.cell 1 rfl; have fw8_1 := hb0.frozen 1 rfl; have cw8_2 := hb0.cell 2 rfl; have fw8_2 := hb0.frozen 2 rfl; have cw8_3 := hb0.cell 3 rfl; have fw8_3 := hb0.frozen 3 rfl; have cw8_4 := hb0.cell 4 rfl; have fw8_4 := hb0.frozen 4 rfl; have cw8_5 := hb0.cell 5 rfl; have fw8_5 := hb0.frozen 5 rfl; have cw8_6 := hb0.cell 6 rfl; have fw8_6 := hb0.frozen 6 rfl; have cw8_7 := hb0.cell 7 rfl; have fw8_7 := hb0.frozen 7 rfl
            clear hb0
            have hb0 := HDF.out.b4
            have hy4 := hb0.lt; have cw4_0 := hb0.cell 0 rfl; have fw4_0 := hb0.frozen 0 rfl; have cw4_1 := hb0.cell 1 rfl; have fw4_1 := hb0.frozen 1 rfl; have cw4_2 := hb0.cell 2 rfl; have fw4_2 := hb0.frozen 2 rfl; have cw4_3 := hb0.cell 3 rfl; have fw4_3 := hb0.frozen 3 rfl; have cw4_4 := hb0.cell 4 rfl; have fw4_4 := hb0.frozen 4 rfl; have cw4_5 := hb0.cell 5 rfl; have fw4_5 := hb0.frozen 5 rfl; have cw4_6 := hb0.cell 6 rfl; have fw4_6 := hb0.frozen 6 rfl; have cw4_7 := hb0.cell 7 rfl; have fw4_7 := hb0.frozen 7 rfl
            clear hb0
            go_wp2
            refine bodyPost_ret (by simp [results, Tryz.results40, go_sem, cw4_0, cw4_1, cw4_2, cw4_3, cw4_4, cw4_5, cw4_6, cw4_7]; try rfl) rfl ?_
            have hsXF := HDF.out.sX
            exact ⟨_, rfl, HDF.out.sm, HDF.out.src.high (B := p + 1) (by (repeat' (first | (with_reducible exact Below.refl _ _) | (with_reducible assumption) | (with_reducible refine Below.alloc ?_ ?_ _) | (with_reducible refine Below.drew ?_) | (with_reducible refine Below.drewN' ?_ _) | (with_reducible refine Below.setCell ?_ ?_ _) | (refine Below.via ?_ (by with_reducible assumption) ?_) | (with_reducible refine Below.via ?_ (Wd.h _) ?_) | go_size))) (by omega), by have h1 := HDF.out.kp; (repeat' (first | (with_reducible exact Keep.refl _ _) | (with_reducible assumption) | (with_reducible refine Keep.alloc ?_ _) | (with_reducible refine Keep.drew ?_) | (with_reducible refine Keep.drewN ?_ _) | (refine Keep.trans ?_ (by with_reducible assumption)) | (refine Keep.via ?_ (by with_reducible assumption)) | (with_reducible refine Keep.new ?_ ?_ _) | go_size))⟩
        have n1 : (z == 1) = false := by simpa using e1
        by_cases e2 : z = 2
        · subst e2
          go_wp2_with fail
          refine (spec_l01Next p _ _ (HDA.out.src.below (by (repeat' (first | (with_reducible exact Below.refl _ _) | (with_reducible assumption) | (with_reducible refine Below.alloc ?_ ?_ _) | (with_reducible refine Below.drew ?_) | (with_reducible refine Below.drewN' ?_ _) | (with_reducible refine Below.setCell ?_ ?_ _) | (refine Below.via ?_ (by with_reducible assumption) ?_) | (with_reducible refine Below.via ?_ (Wd.h _) ?_) | go_size)))) (by omega)).mono ?_
          rintro e w4 ⟨r, rfl, ra, _, rb, hs4, hk4⟩
          have rc := rb (by omega)
          have rn : r.toNat < 3 := by omega
          have hld := (hk4.cell wA.heap.size r.toNat (by simp) (by omega)).trans (litC3 wA 2 0 30000 30001 r.toNat rn)
          have HDB := Lib.hid ((HDA.out.below (Below.alloc (Below.refl _ wA) (Nat.le_refl _) _)).keep hp hk4 hs4)
          have hz4 := hk4.size
          simp at hz4
          clear hs4 hk4 rb HDA
          have hb0 := HDB.out.bx
          have hy8 := hb0.lt; have cw8_0 := hb0.cell 0 rfl; have fw8_0 := hb0.frozen 0 rfl; have cw8_1 := hb0.cell 1 rfl; have fw8_1 := hb0.frozen 1 rfl; have cw8_2 := hb0.cell 2 rfl; have fw8_2 := hb0.frozen 2 rfl; have cw8_3 := hb0.cell 3 rfl; have fw8_3 := hb0.frozen 3 rfl; have cw8_4 := hb0.cell 4 rfl; have fw8_4 := hb0.frozen 4 rfl; have cw8_5 := hb0.cell 5 rfl; have fw8_5 := hb0.frozen 5 rfl; have cw8_6 := hb0.cell 6 rfl; have fw8_6 := hb0.frozen 6 rfl; have cw8_7 := hb0.cell 7 rfl; have fw8_7 := hb0.frozen 7 rfl
          clear hb0
          go_upto_region 16 with (fail)
          have HDF := Lib.hid (HDB.out.put2 (y' := ⟨r1, r2, x, pick [0, 30000, 30001] r.toNat, r4, r5, tt, r6⟩) hp (wr' := w4.setCell ⟨X, 3, none⟩ (.int .i64 (pick [0, 30000, 30001] r.toNat))) ((((Keep.refl (· = X) _).one _)).wide fun k q => Or.inr q) (HDB.out.src.high (B := p + 1) (by (repeat' (first | (with_reducible exact Below.refl _ _) | (with_reducible assumption) | (with_reducible refine Below.alloc ?_ ?_ _) | (with_reducible refine Below.drew ?_) | (with_reducible refine Below.drewN' ?_ _) | (with_reducible refine Below.setCell ?_ ?_ _) | (refine Below.via ?_ (by with_reducible assumption) ?_) | (with_reducible refine Below.via ?_ (Wd.h _) ?_) | go_size))) (by omega)) (bx8 (by simp; omega) (by simp [go_sem, cw8_0, cw8_1, cw8_2, cw8_3, cw8_4, cw8_5, cw8_6, cw8_7]) (by simp [go_sem, fw8_0]) (by simp [go_sem, cw8_0, cw8_1, cw8_2, cw8_3, cw8_4, cw8_5, cw8_6, cw8_7]) (by simp [go_sem, fw8_1]) (by simp [go_sem, cw8_0, cw8_1, cw8_2, cw8_3, cw8_4, cw8_5, cw8_6, cw8_7]) (by simp [go_sem, fw8_2]) (by simp [go_sem, cw8_0, cw8_1, cw8_2, cw8_3, cw8_4, cw8_5, cw8_6, cw8_7]) (by simp [go_sem, fw8_3]) (by simp [go_sem, cw8_0, cw8_1, cw8_2, cw8_3, cw8_4, cw8_5, cw8_6, cw8_7]) (by simp [go_sem, fw8_4]) (by simp [go_sem, cw8_0, cw8_1, cw8_2, cw8_3, cw8_4, cw8_5, cw8_6, cw8_7]) (by simp [go_sem, fw8_5]) (by simp [go_sem, cw8_0, cw8_1, cw8_2, cw8_3, cw8_4, cw8_5, cw8_6, cw8_7]) (by simp [go_sem, fw8_6]) (by simp [go_sem, cw8_0, cw8_1, cw8_2, cw8_3, cw8_4, cw8_5, cw8_6, cw8_7]) (by simp [go_sem, fw8_7])) (by have h := HDB.out.sm; exact ⟨h.sh, h.en, h.ex, pick3_sm ⟨by omega, by omega⟩ ⟨by omega, by omega⟩ ⟨by omega, by omega⟩ rn, h.cl, h.fr, h.tt, h.pr⟩))
          clear hy8 cw8_0 fw8_0 cw8_1 fw8_1 cw8_2 fw8_2 cw8_3 fw8_3 cw8_4 fw8_4 cw8_5 fw8_5 cw8_6 fw8_6 cw8_7 fw8_7 HDB hld
          generalize World.setCell w4 _ _ = wF at *
          have hb0 := HDF.out.bx
          have hy8 := hb0.lt; have cw8_0 := hb0.cell 0 rfl; have fw8_0 := hb0.frozen 0 rfl; have cw8_1 := hb0.cell 1 rfl; have fw8_1 := hb0.frozen 1 rfl; have cw8_2 := hb0.cell 2 rfl; have fw8_2 := hb0.frozen 2 rfl; have cw8_3 := hb0.cell 3 rfl; have fw8_3 := hb0.frozen 3 rfl; have cw8_4 := hb0.cell 4 rfl; have fw8_4 := hb0.frozen 4 rfl; have cw8_5 := hb0.cell 5 rfl; have fw8_5 := hb0.frozen 5 rfl; have cw8_6 := hb0.cell 6 rfl; have fw8_6 := hb0.frozen 6 rfl; have cw8_7 := hb0.cell 7 rfl; have fw8_7 := hb0.frozen 7 rfl
          clear hb0
          have hb0 := HDF.out.b4
          have hy4 := hb0.lt; have cw4_0 := hb0.cell 0 rfl; have fw4_0 := hb0.frozen 0 rfl; have cw4_1 := hb0.cell 1 rfl; have fw4_1 := hb0.frozen 1 rfl; have cw4_2 := hb0.cell 2 rfl; have fw4_2 := hb0.frozen 2 rfl; have cw4_3 := hb0.cell 3 rfl; have fw4_3 := hb0.frozen 3 rfl; have cw4_4 := hb0.cell 4 rfl; have fw4_4 := hb0.frozen 4 rfl; have cw4_5 := hb0.cell 5 rfl; have fw4_5 := hb0.frozen 5 rfl; have cw4_6 := hb0.cell 6 rfl; have fw4_6 := hb0.frozen 6 rfl; have cw4_7 := hb0.cell 7 rfl; have fw4_7 := hb0.frozen 7 rfl
          clear hb0
          go_wp2
          refine bodyPost_ret (by simp [results, Tryz.results40, go_sem, cw4_0, cw4_1, cw4_2, cw4_3, cw4_4, cw4_5, cw4_6, cw4_7]; try rfl) rfl ?_
          have hsXF := HDF.out.sX
          exact ⟨_, rfl, HDF.out.sm, HDF.out.src.high (B := p + 1) (by (repeat' (first | (with_reducible exact Below.refl _ _) | (with_reducible assumption) | (with_reducible refine Below.alloc ?_ ?_ _) | (with_reducible refine Below.drew ?_) | (with_reducible refine Below.drewN' ?_ _) | (with_reducible refine Below.setCell ?_ ?_ _) | (refine Below.via ?_ (by with_reducible assumption) ?_) | (with_reducible refine Below.via ?_ (Wd.h _) ?_) | go_size))) (by omega), by have h1 := HDF.out.kp; (repeat' (first | (with_reducible exact Keep.refl _ _) | (with_reducible assumption) | (with_reducible refine Keep.alloc ?_ _) | (with_reducible refine Keep.drew ?_) | (with_reducible refine Keep.drewN ?_ _) | (refine Keep.trans ?_ (by with_reducible assumption)) | (refine Keep.via ?_ (by with_reducible assumption)) | (with_reducible refine Keep.new ?_ ?_ _) | go_size))⟩
        have n2 : (z == 2) = false := by simpa using e2
        by_cases e3 : z = 3
        · subst e3
          go_wp2_with fail
          refine (spec_l01Next p _ _ (HDA.out.src.below (by (repeat' (first | (with_reducible exact Below.refl _ _) | (with_reducible assumption) | (with_reducible refine Below.alloc ?_ ?_ _) | (with_reducible refine Below.drew ?_) | (with_reducible refine Below.drewN' ?_ _) | (with_reducible refine Below.setCell ?_ ?_ _) | (refine Below.via ?_ (by with_reducible assumption) ?_) | (with_reducible refine Below.via ?_ (Wd.h _) ?_) | go_size)))) (by omega)).mono ?_
          rintro e w4 ⟨r, rfl, ra, _, rb, hs4, hk4⟩
          have rc := rb (by omega)
          have rn : r.toNat < 2 := by omega
          have hld := (hk4.cell wA.heap.size r.toNat (by simp) (by omega)).trans (litC2 wA 2 (-1) 4 r.toNat rn)
          have HDB := Lib.hid ((HDA.out.below (Below.alloc (Below.refl _ wA) (Nat.le_refl _) _)).keep hp hk4 hs4)
          have hz4 := hk4.size
          simp at hz4
          clear hs4 hk4 rb HDA
          have hb0 := HDB.out.bx
          have hy8 := hb0.lt; have cw8_0 := hb0.cell 0 rfl; have fw8_0 := hb0.frozen 0 rfl; have cw8_1 := hb0.cell 1 rfl; have fw8_1 := hb0.frozen 1 rfl; have cw8_2 := hb0.cell 2 rfl; have fw8_2 := hb0.frozen 2 rfl; have cw8_3 := hb0.cell 3 rfl; have fw8_3 := hb0.frozen 3 rfl; have cw8_4 := hb0.cell 4 rfl; have fw8_4 := hb0.frozen 4 rfl; have cw8_5 := hb0.cell 5 rfl; have fw8_5 := hb0.frozen 5 rfl; have cw8_6 := hb0.cell 6 rfl; have fw8_6 := hb0.frozen 6 rfl; have cw8_7 := hb0.cell 7 rfl; have fw8_7 := hb0.frozen 7 rfl
          clear hb0
          go_upto_region 16 with (fail)
          have HDF := Lib.hid (HDB.out.put2 (y' := ⟨r1, r2, x, 1 + r3, pick [-1, 4] r.toNat, r5, tt, r6⟩) hp (wr' := w4.setCell ⟨X, 4, none⟩ (.int .i64 (pick [-1, 4] r.toNat))) ((((Keep.refl (· = X) _).one _)).wide fun k q => Or.inr q) (HDB.out.src.high (B := p + 1) (by (repeat' (first | (with_reducible exact Below.refl _ _) | (with_reducible assumption) | (with_reducible refine Below.alloc ?_ ?_ _) | (with_reducible refine Below.drew ?_) | (with_reducible refine Below.drewN' ?_ _) | (with_reducible refine Below.setCell ?_ ?_ _) | (refine Below.via ?_ (by with_reducible assumption) ?_) | (with_reducible refine Below.via ?_ (Wd.h _) ?_) | go_size))) (by omega)) (bx8 (by simp; omega) (by simp [go_sem, cw8_0, cw8_1, cw8_2, cw8_3, cw8_4, cw8_5, cw8_6, cw8_7]) (by simp [go_sem, fw8_0]) (by simp [go_sem, cw8_0, cw8_1, cw8_2, cw8_3, cw8_4, cw8_5, cw8_6, cw8_7]) (by simp [go_sem, fw8_1]) (by simp [go_sem, cw8_0, cw8_1, cw8_2, cw8_3, cw8_4, cw8_5, cw8_6, cw8_7]) (by simp [go_sem, fw8_2]) (by simp [go_sem, cw8_0, cw8_1, cw8_2, cw8_3, cw8_4, cw8_5, cw8_6, cw8_7]) (by simp [go_sem, fw8_3]) (by simp [go_sem, cw8_0, cw8_1, cw8_2, cw8_3, cw8_4, cw8_5, cw8_6, cw8_7]) (by simp [go_sem, fw8_4]) (by simp [go_sem, cw8_0, cw8_1, cw8_2, cw8_3, cw8_4, cw8_5, cw8_6, cw8_7]) (by simp [go_sem, fw8_5]) (by simp [go_sem, cw8_0, cw8_1, cw8_2, cw8_3, cw8_4, cw8_5, cw8_6, cw8_7]) (by simp [go_sem, fw8_6]) (by simp [go_sem, cw8_0, cw8_1, cw8_2, cw8_3, cw8_4, cw8_5, cw8_6, cw8_7]) (by simp [go_sem, fw8_7])) (by have h := HDB.out.sm; exact ⟨h.sh, h.en, h.ex, h.am, pick2_sm ⟨by omega, by omega⟩ ⟨by omega, by omega⟩ rn, h.fr, h.tt, h.pr⟩))
          clear hy8 cw8_0 fw8_0 cw8_1 fw8_1 cw8_2 fw8_2 cw8_3 fw8_3 cw8_4 fw8_4 cw8_5 fw8_5 cw8_6 fw8_6 cw8_7 fw8_7 HDB hld
          generalize World.setCell w4 _ _ = wF at *
          have hb0 := HDF.out.bx
          have hy8 := hb0.lt; have cw8_0 := hb0.cell 0 rfl; have fw8_0 := hb0.frozen 0 rfl; have cw8_1 := hb0.cell 1 rfl; have fw8_1 := hb0.frozen 1 rfl; have cw8_2 := hb0.cell 2 rfl; have fw8_2 := hb0.frozen 2 rfl; have cw8_3 := hb0.cell 3 rfl; have fw8_3 := hb0.frozen 3 rfl; have cw8_4 := hb0.cell 4 rfl; have fw8_4 := hb0.frozen 4 rfl; have cw8_5 := hb0.cell 5 rfl; have fw8_5 := hb0.frozen 5 rfl; have cw8_6 := hb0.cell 6 rfl; have fw8_6 := hb0.frozen 6 rfl; have cw8_7 := hb0.cell 7 rfl; have fw8_7 := hb0.frozen 7 rfl
          clear hb0
          have hb0 := HDF.out.b4
          have hy4 := hb0.lt; have cw4_0 := hb0.cell 0 rfl; have fw4_0 := hb0.frozen 0 rfl; have cw4_1 := hb0.cell 1 rfl; have fw4_1 := hb0.frozen 1 rfl; have cw4_2 := hb0.cell 2 rfl; have fw4_2 := hb0.frozen 2 rfl; have cw4_3 := hb0.cell 3 rfl; have fw4_3 := hb0.frozen 3 rfl; have cw4_4 := hb0.cell 4 rfl; have fw4_4 := hb0.frozen 4 rfl; have cw4_5 := hb0.cell 5 rfl; have fw4_5 := hb0.frozen 5 rfl; have cw4_6 := hb0.cell 6 rfl; have fw4_6 := hb0.frozen 6 rfl; have cw4_7 := hb0.cell 7 rfl; have fw4_7 := hb0.frozen 7 rfl
          clear hb0
          go_wp2
          refine bodyPost_ret (by simp [results, Tryz.results40, go_sem, cw4_0, cw4_1, cw4_2, cw4_3, cw4_4, cw4_5, cw4_6, cw4_7]; try rfl) rfl ?_
          have hsXF := HDF.out.sX
          exact ⟨_, rfl, HDF.out.sm, HDF.out.src.high (B := p + 1) (by (repeat' (first | (with_reducible exact Below.refl _ _) | (with_reducible assumption) | (with_reducible refine Below.alloc ?_ ?_ _) | (with_reducible refine Below.drew ?_) | (with_reducible refine Below.drewN' ?_ _) | (with_reducible refine Below.setCell ?_ ?_ _) | (refine Below.via ?_ (by with_reducible assumption) ?_) | (with_reducible refine Below.via ?_ (Wd.h _) ?_) | go_size))) (by omega), by have h1 := HDF.out.kp; (repeat' (first | (with_reducible exact Keep.refl _ _) | (with_reducible assumption) | (with_reducible refine Keep.alloc ?_ _) | (with_reducible refine Keep.drew ?_) | (with_reducible refine Keep.drewN ?_ _) | (refine Keep.trans ?_ (by with_reducible assumption)) | (refine Keep.via ?_ (by with_reducible assumption)) | (with_reducible refine Keep.new ?_ ?_ _) | go_size))⟩
        have n3 : (z == 3) = false := by simpa using e3
        by_cases e4 : z = 4
        · subst e4
          go_wp2_with fail
          refine (spec_l01Next p _ _ (HDA.out.src.below (by (repeat' (first | (with_reducible exact Below.refl _ _) | (with_reducible assumption) | (with_reducible refine Below.alloc ?_ ?_ _) | (with_reducible refine Below.drew ?_) | (with_reducible refine Below.drewN' ?_ _) | (with_reducible refine Below.setCell ?_ ?_ _) | (refine Below.via ?_ (by with_reducible assumption) ?_) | (with_reducible refine Below.via ?_ (Wd.h _) ?_) | go_size)))) (by omega)).mono ?_
          rintro e w4 ⟨r, rfl, ra, _, rb, hs4, hk4⟩
          have rc := rb (by omega)
          have rn : r.toNat < 3 := by omega
          have hld := (hk4.cell wA.heap.size r.toNat (by simp) (by omega)).trans (litC3 wA 2 (-1) 1000000 1000001 r.toNat rn)
          have HDB := Lib.hid ((HDA.out.below (Below.alloc (Below.refl _ wA) (Nat.le_refl _) _)).keep hp hk4 hs4)
          have hz4 := hk4.size
          simp at hz4
          clear hs4 hk4 rb HDA
          have hb0 := HDB.out.bx
          have hy8 := hb0.lt; have cw8_0 := hb0.cell 0 rfl; have fw8_0 := hb0.frozen 0 rfl; have cw8_1 := hb0.cell 1 rfl; have fw8_1 := hb0.frozen 1 rfl; have cw8_2 := hb0.cell 2 rfl; have fw8_2 := hb0.frozen 2 rfl; have cw8_3 := hb0.cell 3 rfl; have fw8_3 := hb0.frozen 3 rfl; have cw8_4 := hb0.cell 4 rfl; have fw8_4 := hb0.frozen 4 rfl; have cw8_5 := hb0.cell 5 rfl; have fw8_5 := hb0.frozen 5 rfl; have cw8_6 := hb0.cell 6 rfl; have fw8_6 := hb0.frozen 6 rfl; have cw8_7 := hb0.cell 7 rfl; have fw8_7 := hb0.frozen 7 rfl
          clear hb0
          go_upto_region 16 with (fail)
          have HDF := Lib.hid (HDB.out.put2 (y' := ⟨r1, r2, x, 1 + r3, r4, r5, tt, pick [-1, 1000000, 1000001] r.toNat⟩) hp (wr' := w4.setCell ⟨X, 7, none⟩ (.int .i64 (pick [-1, 1000000, 1000001] r.toNat))) ((((Keep.refl (· = X) _).one _)).wide fun k q => Or.inr q) (HDB.out.src.high (B := p + 1) (by (repeat' (first | (with_reducible exact Below.refl _ _) | (with_reducible assumption) | (with_reducible refine Below.alloc ?_ ?_ _) | (with_reducible refine Below.drew ?_) | (with_reducible refine Below.drewN' ?_ _) | (with_reducible refine Below.setCell ?_ ?_ _) | (refine Below.via ?_ (by with_reducible assumption) ?_) | (with_reducible refine Below.via ?_ (Wd.h _) ?_) | go_size))) (by omega)) (bx8 (by simp; omega) (by simp [go_sem, cw8_0, cw8_1, cw8_2, cw8_3, cw8_4, cw8_5, cw8_6, cw8_7]) (by simp [go_sem, fw8_0]) (by simp [go_sem, cw8_0, cw8_1, cw8_2, cw8_3, cw8_4, cw8_5, cw8_6, cw8_7]) (by simp [go_sem, fw8_1]) (by simp [go_sem, cw8_0, cw8_1, cw8_2, cw8_3, cw8_4, cw8_5, cw8_6, cw8_7]) (by simp [go_sem, fw8_2]) (by simp [go_sem, cw8_0, cw8_1, cw8_2, cw8_3, cw8_4, cw8_5, cw8_6, cw8_7]) (by simp [go_sem, fw8_3]) (by simp [go_sem, cw8_0, cw8_1, cw8_2, cw8_3, cw8_4, cw8_5, cw8_6, cw8_7]) (by simp [go_sem, fw8_4]) (by simp [go_sem, cw8_0, cw8_1, cw8_2, cw8_3, cw8_4, cw8_5, cw8_6, cw8_7]) (by simp [go_sem, fw8_5]) (by simp [go_sem, cw8_0, cw8_1, cw8_2, cw8_3, cw8_4, cw8_5, cw8_6, cw8_7]) (by simp [go_sem, fw8_6]) (by simp [go_sem, cw8_0, cw8_1, cw8_2, cw8_3, cw8_4, cw8_5, cw8_6, cw8_7]) (by simp [go_sem, fw8_7])) (by have h := HDB.out.sm; exact ⟨h.sh, h.en, h.ex, h.am, h.cl, h.fr, h.tt, pick3_sm ⟨by omega, by omega⟩ ⟨by omega, by omega⟩ ⟨by omega, by omega⟩ rn⟩))
          clear hy8 cw8_0 fw8_0 cw8_1 fw8_1 cw8_2 fw8_2 cw8_3 fw8_3 cw8_4 fw8_4 cw8_5 fw8_5 cw8_6 fw8_6 cw8_7 fw8_7 HDB hld
          generalize World.setCell w4 _ _ = wF at *
          have hb0 := HDF.out.bx
          have hy8 := hb0.lt; have cw8_0 := hb0.cell 0 rfl; have fw8_0 := hb0.frozen 0 rfl; have cw8_1 := hb0.cell 1 rfl; have fw8_1 := hb0.frozen 1 rfl; have cw8_2 := hb0.cell 2 rfl; have fw8_2 := hb0.frozen 2 rfl; have cw8_3 := hb0.cell 3 rfl; have fw8_3 := hb0.frozen 3 rfl; have cw8_4 := hb0.cell 4 rfl; have fw8_4 := hb0.frozen 4 rfl; have cw8_5 := hb0.cell 5 rfl; have fw8_5 := hb0.frozen 5 rfl; have cw8_6 := hb0.cell 6 rfl; have fw8_6 := hb0.frozen 6 rfl; have cw8_7 := hb0.cell 7 rfl; have fw8_7 := hb0.frozen 7 rfl
          clear hb0
          have hb0 := HDF.out.b4
          have hy4 := hb0.lt; have cw4_0 := hb0.cell 0 rfl; have fw4_0 := hb0.frozen 0 rfl; have cw4_1 := hb0.cell 1 rfl; have fw4_1 := hb0.frozen 1 rfl; have cw4_2 := hb0.cell 2 rfl; have fw4_2 := hb0.frozen 2 rfl; have cw4_3 := hb0.cell 3 rfl; have fw4_3 := hb0.frozen 3 rfl; have cw4_4 := hb0.cell 4 rfl; have fw4_4 := hb0.frozen 4 rfl; have cw4_5 := hb0.cell 5 rfl; have fw4_5 := hb0.frozen 5 rfl; have cw4_6 := hb0.cell 6 rfl; have fw4_6 := hb0.frozen 6 rfl; have cw4_7 := hb0.cell 7 rfl; have fw4_7 := hb0.frozen 7 rfl
          clear hb0
          go_wp2
          refine bodyPost_ret (by simp [results, Tryz.results40, go_sem, cw4_0, cw4_1, cw4_2, cw4_3, cw4_4, cw4_5, cw4_6, cw4_7]; try rfl) rfl ?_
          have hsXF := HDF.out.sX
          exact ⟨_, rfl, HDF.out.sm, HDF.out.src.high (B := p + 1) (by (repeat' (first | (with_reducible exact Below.refl _ _) | (with_reducible assumption) | (with_reducible refine Below.alloc ?_ ?_ _) | (with_reducible refine Below.drew ?_) | (with_reducible refine Below.drewN' ?_ _) | (with_reducible refine Below.setCell ?_ ?_ _) | (refine Below.via ?_ (by with_reducible assumption) ?_) | (with_reducible refine Below.via ?_ (Wd.h _) ?_) | go_size))) (by omega), by have h1 := HDF.out.kp; (repeat' (first | (with_reducible exact Keep.refl _ _) | (with_reducible assumption) | (with_reducible refine Keep.alloc ?_ _) | (with_reducible refine Keep.drew ?_) | (with_reducible refine Keep.drewN ?_ _) | (refine Keep.trans ?_ (by with_reducible assumption)) | (refine Keep.via ?_ (by with_reducible assumption)) | (with_reducible refine Keep.new ?_ ?_ _) | go_size))⟩
        have n4 : (z == 4) = false := by simpa using e4
        clear e0 e1 e2 e3 e4
        have HDF := HDA
        clear HDA
        have hb0 := HDF.out.bx
        have hy8 := hb0.lt; have cw8_0 := hb0.cell 0 rfl; have fw8_0 := hb0.frozen 0 rfl; have cw8_1 := hb0.cell 1 rfl; have fw8_1 := hb0.frozen 1 rfl; have cw8_2 := hb0.cell 2 rfl; have fw8_2 := hb0.frozen 2 rfl; have cw8_3 := hb0.cell 3 rfl; have fw8_3 := hb0.frozen 3 rfl; have cw8_4 := hb0.cell 4 rfl; have fw8_4 := hb0.frozen 4 rfl; have cw8_5 := hb0.cell 5 rfl; have fw8_5 := hb0.frozen 5 rfl; have cw8_6 := hb0.cell 6 rfl; have fw8_6 := hb0.frozen 6 rfl; have cw8_7 := hb0.cell 7 rfl; have fw8_7 := hb0.frozen 7 rfl
        clear hb0
        have hb0 := HDF.out.b4
        have hy4 := hb0.lt; have cw4_0 := hb0.cell 0 rfl; have fw4_0 := hb0.frozen 0 rfl; have cw4_1 := hb0.cell 1 rfl; have fw4_1 := hb0.frozen 1 rfl; have cw4_2 := hb0.cell 2 rfl; have fw4_2 := hb0.frozen 2 rfl; have cw4_3 := hb0.cell 3 rfl; have fw4_3 := hb0.frozen 3 rfl; have cw4_4 := hb0.cell 4 rfl; have fw4_4 := hb0.frozen 4 rfl; have cw4_5 := hb0.cell 5 rfl; have fw4_5 := hb0.frozen 5 rfl; have cw4_6 := hb0.cell 6 rfl; have fw4_6 := hb0.frozen 6 rfl; have cw4_7 := hb0.cell 7 rfl; have fw4_7 := hb0.frozen 7 rfl
        clear hb0
        go_wp2
        refine bodyPost_ret (by simp [results, Tryz.results40, go_sem, cw4_0, cw4_1, cw4_2, cw4_3, cw4_4, cw4_5, cw4_6, cw4_7]; try rfl) rfl ?_
        have hsXF := HDF.out.sX
        exact ⟨_, rfl, HDF.out.sm, HDF.out.src.high (B := p + 1) (by (repeat' (first | (with_reducible exact Below.refl _ _) | (with_reducible assumption) | (with_reducible refine Below.alloc ?_ ?_ _) | (with_reducible refine Below.drew ?_) | (with_reducible refine Below.drewN' ?_ _) | (with_reducible refine Below.setCell ?_ ?_ _) | (refine Below.via ?_ (by with_reducible assumption) ?_) | (with_reducible refine Below.via ?_ (Wd.h _) ?_) | go_size))) (by omega), by have h1 := HDF.out.kp; (repeat' (first | (with_reducible exact Keep.refl _ _) | (with_reducible assumption) | (with_reducible refine Keep.alloc ?_ _) | (with_reducible refine Keep.drew ?_) | (with_reducible refine Keep.drewN ?_ _) | (refine Keep.trans ?_ (by with_reducible assumption)) | (refine Keep.via ?_ (by with_reducible assumption)) | (with_reducible refine Keep.new ?_ ?_ _) | go_size))⟩
end Go.Proofs.YtbdacplndmnkhaaGreatDoor
