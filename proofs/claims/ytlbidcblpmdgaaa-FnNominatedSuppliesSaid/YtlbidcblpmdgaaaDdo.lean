/- Drawn nominations. -/
import Derived.Test.YtlbidcblpmdgaaaDcb
import Derived.Test.YtlbidcblpmdgaaaNl
import Derived.Lib.MinMax
namespace Go.Proofs.Ytlbidcblpmdgaaa
set_option linter.unusedVariables false
set_option linter.unusedSimpArgs false
open Go.RowKit
theorem fourN {l : List Int} (h : l.length = 4) : ∃ a b c d, l = [a, b, c, d] := by
  match l, h with
  | [a, b, c, d], _ => exact ⟨a, b, c, d, rfl⟩
/-- a nomination whose numbers are small -/
structure Nom.sm (x : Nom) : Prop where
  con : -2500000 ≤ x.con ∧ x.con ≤ 2500000
  hr : -2500000 ≤ x.hr ∧ x.hr ≤ 2500000
  sent : -3000000 ≤ x.sent ∧ x.sent ≤ 3000000
  am : -3000000 ≤ x.am ∧ x.am ≤ 3000000
/-- what stays while the nomination in box g is written: a draw, a write to the box -/
structure DN (w : World) (p X g : Nat) (c : Ctr) (y : Nom) (wr : World) : Prop where
  bx : Bx wr g y.cells
  bc : Bx wr X c.cells
  sm : y.sm
  src : Src wr p
  kp : Keep (· = p) w wr
  b6 : Bx wr w.heap.size [.int .i64 0, .int .i64 0, .int .i64 0, .int .i64 0]
  sX : w.heap.size < X ∧ X < g
theorem DN.keep {w wr wr' : World} {p X g : Nat} {c : Ctr} {y : Nom} (h : DN w p X g c y wr) (hp : p < w.heap.size) (hk : Keep (· = p) wr wr') (hs : Src wr' p) : DN w p X g c y wr' := by
  have hX := h.sX
  exact ⟨h.bx.keep hk (by omega), h.bc.keep hk (by omega), h.sm, hs, h.kp.trans hk, h.b6.keep hk (by omega), hX⟩
theorem DN.below {w wr wr' : World} {p X g : Nat} {c : Ctr} {y : Nom} (h : DN w p X g c y wr) (hb : Below wr.heap.size wr wr') : DN w p X g c y wr' :=
  ⟨h.bx.below hb h.bx.lt, h.bc.below hb h.bc.lt, h.sm, h.src.below hb, h.kp.trans (Keep.of_below _ hb), h.b6.below hb h.b6.lt, h.sX⟩
theorem DN.put2 {w wr wr' : World} {p X g : Nat} {c : Ctr} {y y' : Nom} (h : DN w p X g c y wr) (hp : p < w.heap.size) (hk : Keep (fun k => k = p ∨ k = g) wr wr') (hs : Src wr' p) (hb : Bx wr' g y'.cells) (hsm : y'.sm) : DN w p X g c y' wr' := by
  have hX := h.sX
  exact ⟨hb, h.bc.keep hk (by omega), hsm, hs, h.kp.to hk (by omega), h.b6.keep hk (by omega), hX⟩
theorem pick4_bd {lo hi a b c d : Int} (ha : lo ≤ a ∧ a ≤ hi) (hb : lo ≤ b ∧ b ≤ hi) (hc : lo ≤ c ∧ c ≤ hi) (hd : lo ≤ d ∧ d ≤ hi) : ∀ {k : Nat}, k < 4 → lo ≤ pick [a, b, c, d] k ∧ pick [a, b, c, d] k ≤ hi
  | 0, _ => ha
  | 1, _ => hb
  | 2, _ => hc
  | 3, _ => hd
  | k + 4, h => by omega
set_option maxRecDepth 100000 in
set_option maxHeartbeats 8000000 in
theorem spec_l21DrawOne (p : Nat) (C : Option Addr) (e : Nat) (lb : List Ctr) (fm : Int) (w : World) (h : Src w p) (hC : Rd w C (lb.flatMap Ctr.cells)) (hCp : ∀ b off, C = some ⟨b, off, none⟩ → ¬ b = p) (hl : lb.length ≤ 33) (hok : CtSm lb) (hf : -3000000 ≤ fm ∧ fm ≤ 3000000) :
    Calls Try.prog 64 #[.pointer (some ⟨p, 0, none⟩), .slice C lb.length e, .int .i64 fm] w fun e w' => ∃ y : Nom, e = .returned y.val ∧ y.sm ∧ Src w' p ∧ Keep (· = p) w w' := by
  have hp := h.lt
  have HS := Lib.hid h
  have HC := Lib.hid hC
  have HCP := Lib.hid hCp
  have HOK := Lib.hid hok
  clear h hC hCp hok
  go_enter Try.func64, Try.ntmps64
  by_cases h0 : lb.length = 0
  · have e1 : ((lb.length : Int) == 0) = true := by rw [h0]; rfl
    clear h0
    go_wp2_with fail
    refine (spec_l01Next p _ _ (HS.out.below (by (repeat' (first | (with_reducible exact Below.refl _ _) | (with_reducible assumption) | (with_reducible refine Below.alloc ?_ ?_ _) | (with_reducible refine Below.drew ?_) | (with_reducible refine Below.drewN' ?_ _) | (with_reducible refine Below.setCell ?_ ?_ _) | (refine Below.via ?_ (by with_reducible assumption) ?_) | (with_reducible refine Below.via ?_ (Wd.h _) ?_) | go_size)))) (by omega)).mono ?_
    rintro e w1 ⟨r, rfl, ra, _, rb, hs1, hk1⟩
    have rc := rb (by omega)
    have HS1 := Lib.hid hs1
    have HK1 := Lib.hid ((Keep.of_below _ (by (repeat' (first | (with_reducible exact Below.refl _ _) | (with_reducible assumption) | (with_reducible refine Below.alloc ?_ ?_ _) | (with_reducible refine Below.drew ?_) | (with_reducible refine Below.drewN' ?_ _) | (with_reducible refine Below.setCell ?_ ?_ _) | (refine Below.via ?_ (by with_reducible assumption) ?_) | (with_reducible refine Below.via ?_ (Wd.h _) ?_) | go_size))) : Keep (· = p) w (w.alloc (.cells #[.int .i64 0, .int .i64 0, .int .i64 0, .int .i64 0] 50))).trans hk1)
    have hz1 := hk1.size
    simp at hz1
    have HB := Lib.hid ((show Bx (w.alloc (.cells #[.int .i64 0, .int .i64 0, .int .i64 0, .int .i64 0] 50)) w.heap.size [.int .i64 0, .int .i64 0, .int .i64 0, .int .i64 0] from bx4 (by simp) (by simp) (by simp) (by simp) (by simp) (by simp) (by simp) (by simp) (by simp)).keep hk1 (by omega))
    clear hs1 hk1 rb
    have hb0 := HB.out
    have hy6 := hb0.lt; have cw6_0 := hb0.cell 0 rfl; have fw6_0 := hb0.frozen 0 rfl; have cw6_1 := hb0.cell 1 rfl; have fw6_1 := hb0.frozen 1 rfl; have cw6_2 := hb0.cell 2 rfl; have fw6_2 := hb0.frozen 2 rfl; have cw6_3 := hb0.cell 3 rfl; have fw6_3 := hb0.frozen 3 rfl
    clear hb0
    go_wp2
    refine bodyPost_ret (by simp [results, Try.results64, go_sem, cw6_0, cw6_1, cw6_2, cw6_3]; try rfl) rfl ?_
    exact ⟨⟨0, r, 0, 0⟩, rfl, ⟨by dsimp only; omega, by dsimp only; omega, by dsimp only; omega, by dsimp only; omega⟩, HS1.out.high (B := p + 1) (by (repeat' (first | (with_reducible exact Below.refl _ _) | (with_reducible assumption) | (with_reducible refine Below.alloc ?_ ?_ _) | (with_reducible refine Below.drew ?_) | (with_reducible refine Below.drewN' ?_ _) | (with_reducible refine Below.setCell ?_ ?_ _) | (refine Below.via ?_ (by with_reducible assumption) ?_) | (with_reducible refine Below.via ?_ (Wd.h _) ?_) | go_size))) (by omega), by have h1 := HK1.out; (repeat' (first | (with_reducible exact Keep.refl _ _) | (with_reducible assumption) | (with_reducible refine Keep.alloc ?_ _) | (with_reducible refine Keep.drew ?_) | (with_reducible refine Keep.drewN ?_ _) | (refine Keep.trans ?_ (by with_reducible assumption)) | (refine Keep.via ?_ (by with_reducible assumption)) | (with_reducible refine Keep.new ?_ ?_ _) | go_size))⟩
  · have e1 : ((lb.length : Int) == 0) = false := by simp; intro h1; exact h0 (by simp [h1])
    have g0 : 0 < lb.length := by omega
    clear h0
    go_wp2_with fail
    refine (spec_l01Next p _ _ (HS.out.below (by (repeat' (first | (with_reducible exact Below.refl _ _) | (with_reducible assumption) | (with_reducible refine Below.alloc ?_ ?_ _) | (with_reducible refine Below.drew ?_) | (with_reducible refine Below.drewN' ?_ _) | (with_reducible refine Below.setCell ?_ ?_ _) | (refine Below.via ?_ (by with_reducible assumption) ?_) | (with_reducible refine Below.via ?_ (Wd.h _) ?_) | go_size)))) (by omega)).mono ?_
    rintro e w1 ⟨r, rfl, ra, rz, rb, hs1, hk1⟩
    have rc : r < lb.length := by
      by_cases h1 : ((lb.length : Nat) : Int) ≤ 1
      · have := rz h1; omega
      · have := rb (by omega); omega
    obtain ⟨k, hk⟩ : ∃ k : Nat, r = k := ⟨r.toNat, by omega⟩
    subst hk
    have hlt : k < lb.length := by omega
    have HS1 := Lib.hid hs1
    have HK1 := Lib.hid ((Keep.of_below _ (by (repeat' (first | (with_reducible exact Below.refl _ _) | (with_reducible assumption) | (with_reducible refine Below.alloc ?_ ?_ _) | (with_reducible refine Below.drew ?_) | (with_reducible refine Below.drewN' ?_ _) | (with_reducible refine Below.setCell ?_ ?_ _) | (refine Below.via ?_ (by with_reducible assumption) ?_) | (with_reducible refine Below.via ?_ (Wd.h _) ?_) | go_size))) : Keep (· = p) w (w.alloc (.cells #[.int .i64 0, .int .i64 0, .int .i64 0, .int .i64 0] 50))).trans hk1)
    have hz1 := hk1.size
    simp at hz1
    have HB1 := Lib.hid ((show Bx (w.alloc (.cells #[.int .i64 0, .int .i64 0, .int .i64 0, .int .i64 0] 50)) w.heap.size [.int .i64 0, .int .i64 0, .int .i64 0, .int .i64 0] from bx4 (by simp) (by simp) (by simp) (by simp) (by simp) (by simp) (by simp) (by simp) (by simp)).keep hk1 (by omega))
    have HC1 := Lib.hid ((HC.out.below (Below.alloc (Below.refl _ _) (Nat.le_refl _) (.cells #[.int .i64 0, .int .i64 0, .int .i64 0, .int .i64 0] 50))).keep hk1 (fun b off e q => HCP.out b off e q))
    clear hs1 hk1 rb rz
    obtain ⟨x, hx⟩ := get_some hlt
    obtain ⟨bx, offx, rfl, hbx, hat⟩ := HC1.out.opened (k := k) (by rw [flat_len Ctr.len]; omega)
    have t0 := hat.elem0 Ctr.len hx rfl
    have t1 := hat.elem Ctr.len hx 1 rfl
    have t2 := hat.elem Ctr.len hx 2 rfl
    have t3 := hat.elem Ctr.len hx 3 rfl
    have t4 := hat.elem Ctr.len hx 4 rfl
    have t5 := hat.elem Ctr.len hx 5 rfl
    have t6 := hat.elem Ctr.len hx 6 rfl
    have t7 := hat.elem Ctr.len hx 7 rfl
    have hsm := HOK.out x (List.mem_of_getElem? hx)
    obtain ⟨c1, c2, c3, c4, c5, c6, c7, c8⟩ := hsm
    have gk : (k : Int) < (lb.length : Int) := by omega
    clear hx hat
    go_upto_region 5 with (fail)
    generalize hW : World.alloc w1 _ = w2
    have hb2 : Below w1.heap.size w1 w2 := by rw [← hW]; (repeat' (first | (with_reducible exact Below.refl _ _) | (with_reducible assumption) | (with_reducible refine Below.alloc ?_ ?_ _) | (with_reducible refine Below.drew ?_) | (with_reducible refine Below.drewN' ?_ _) | (with_reducible refine Below.setCell ?_ ?_ _) | (refine Below.via ?_ (by with_reducible assumption) ?_) | (with_reducible refine Below.via ?_ (Wd.h _) ?_) | go_size))
    have HX2 := Lib.hid (show Bx w2 w1.heap.size x.cells by rw [← hW]; exact bx8 (by simp) (by simp) (by simp) (by simp) (by simp) (by simp) (by simp) (by simp) (by simp) (by simp) (by simp) (by simp) (by simp) (by simp) (by simp) (by simp) (by simp))
    have HS2 := Lib.hid (HS1.out.below hb2)
    have HK2 := Lib.hid (HK1.out.trans (Keep.of_below _ hb2))
    have HB2 := Lib.hid (HB1.out.below hb2 HB1.out.lt)
    have hlX := HX2.out.lt
    have hz2 := hb2.size
    clear hW hb2 HS1 HK1 HB1 t0 t1 t2 t3 t4 t5 t6 t7
    obtain ⟨X, hX⟩ : ∃ X, X = w1.heap.size := ⟨_, rfl⟩
    rw [← hX] at HX2 hlX hz1
    rw [← hX]
    clear hX
    go_wp2_with fail
    refine wp_region_tb (R := Zr) [some 24, some 25, some 26, some 27, some 28, some 29, some 30, some 31, some 32, some 33, some 34, some 35, some 36, some 37, some 38, some 9, none] _ (by intro u; simp only [frs, Act.put, List.setIfInBounds_toArray, List.set_cons_zero, List.set_cons_succ, Nat.reduceAdd]; exact rfl) (fun ρ j => ([.int .i64 (k : Int), .pointer (some ⟨X, 5, none⟩), .int .i64 x.fr, .pointer (some ⟨p, 0, none⟩), .pointer (some ⟨X, 6, none⟩), .int .i64 x.to, .pointer (some ⟨X, 5, none⟩), .int .i64 x.fr, .int .i64 (x.to - x.fr), .int .i64 (x.to - x.fr + 1), .int .i64 (min 3 (x.to - x.fr + 1)), .int .i64 (max 1 (min 3 (x.to - x.fr + 1))), .int .i64 (ρ.r 12), .int .i64 (x.fr + ρ.r 12), .agg #[.int .i64 (k : Int), .int .i64 (x.fr + ρ.r 12), .int .i64 0, .int .i64 0], .pointer (some ⟨ρ.b 15, 0, none⟩), undef] : List Value).getD j undef) (WZ p (fun _ => False) [(12, 4)] [(15, 4, -2500000, 2500000)] 16 (fun wt => Bx wt X x.cells) (fun _ wt => Src wt p) w2) (by kernel_rfl) (by kernel_rfl) Zr.zero (WZ.start (Keep.of_below _ (Below.drew (Below.refl _ _))) (HS2.out.below (Below.drew (Below.refl _ _))) (HX2.out.below (Below.drew (Below.refl w2.heap.size _)) HX2.out.lt)) ?_ ?_
    · intro ii hii L ρ u wx hl hp hc hu hn hW
      have hii : ii < 17 := hii
      have HNo := Lib.hid hn
      clear hn
      have hii : ii = 0 ∨ ii = 1 ∨ ii = 2 ∨ ii = 3 ∨ ii = 4 ∨ ii = 5 ∨ ii = 6 ∨ ii = 7 ∨ ii = 8 ∨ ii = 9 ∨ ii = 10 ∨ ii = 11 ∨ ii = 12 ∨ ii = 13 ∨ ii = 14 ∨ ii = 15 ∨ ii = 16 := by omega
      rcases hii with rfl | rfl | rfl | rfl | rfl | rfl | rfl | rfl | rfl | rfl | rfl | rfl | rfl | rfl | rfl | rfl | rfl
      · refine wpOp_go (E := True) rfl rfl (fun K' hK => ?_)
        go_simp
        refine hK.out _ _ ⟨ρ, (by simp only [put]; rfl), fun _ _ => rfl, hW.pure rfl rfl (by omega)⟩
      · refine wpOp_go (E := True) rfl rfl (fun K' hK => ?_)
        go_simp
        refine hK.out _ _ ⟨ρ, (by simp only [put]; rfl), fun _ _ => rfl, hW.pure rfl rfl (by omega)⟩
      · have e1 : u 1 = .pointer (some ⟨X, 5, none⟩) := hu 1 (all_of hp (by kernel_rfl))
        have xx5 := (hW.t0 (no_later (i := 14) hc (no_later (i := 13) hc (no_later hc hl (by kernel_rfl)) (by kernel_rfl)) (by kernel_rfl))).cell 5 rfl
        refine wpOp_go (E := True) rfl rfl (fun K' hK => ?_)
        go_simp
        refine hK.out _ _ ⟨ρ, (by simp only [put, e1]; rfl), fun _ _ => rfl, hW.pure rfl rfl (by omega)⟩
      · refine wpOp_go (E := True) rfl rfl (fun K' hK => ?_)
        go_simp
        refine hK.out _ _ ⟨ρ, (by simp only [put]; rfl), fun _ _ => rfl, hW.pure rfl rfl (by omega)⟩
      · refine wpOp_go (E := True) rfl rfl (fun K' hK => ?_)
        go_simp
        refine hK.out _ _ ⟨ρ, (by simp only [put]; rfl), fun _ _ => rfl, hW.pure rfl rfl (by omega)⟩
      · have e4 : u 4 = .pointer (some ⟨X, 6, none⟩) := hu 4 (all_of hp (by kernel_rfl))
        have xx6 := (hW.t0 (no_later (i := 14) hc (no_later (i := 13) hc (no_later (i := 12) hc (no_later (i := 11) hc (no_later (i := 10) hc (no_later (i := 9) hc (no_later (i := 8) hc (no_later hc hl (by kernel_rfl)) (by kernel_rfl)) (by kernel_rfl)) (by kernel_rfl)) (by kernel_rfl)) (by kernel_rfl)) (by kernel_rfl)) (by kernel_rfl))).cell 6 rfl
        refine wpOp_go (E := True) rfl rfl (fun K' hK => ?_)
        go_simp
        refine hK.out _ _ ⟨ρ, (by simp only [put, e4]; rfl), fun _ _ => rfl, hW.pure rfl rfl (by omega)⟩
      · refine wpOp_go (E := True) rfl rfl (fun K' hK => ?_)
        go_simp
        refine hK.out _ _ ⟨ρ, (by simp only [put]; rfl), fun _ _ => rfl, hW.pure rfl rfl (by omega)⟩
      · have e6 : u 6 = .pointer (some ⟨X, 5, none⟩) := hu 6 (all_of hp (by kernel_rfl))
        have xx5 := (hW.t0 (no_later (i := 14) hc (no_later (i := 13) hc (no_later (i := 12) hc (no_later (i := 11) hc (no_later (i := 10) hc (no_later (i := 9) hc (no_later (i := 8) hc (no_later hc hl (by kernel_rfl)) (by kernel_rfl)) (by kernel_rfl)) (by kernel_rfl)) (by kernel_rfl)) (by kernel_rfl)) (by kernel_rfl)) (by kernel_rfl))).cell 5 rfl
        refine wpOp_go (E := True) rfl rfl (fun K' hK => ?_)
        go_simp
        refine hK.out _ _ ⟨ρ, (by simp only [put, e6]; rfl), fun _ _ => rfl, hW.pure rfl rfl (by omega)⟩
      · have e5 : u 5 = .int .i64 x.to := hu 5 (all_of hp (by kernel_rfl))
        have e7 : u 7 = .int .i64 x.fr := hu 7 (all_of hp (by kernel_rfl))
        have hwr8 := IntWalk.i64_in (x.to - x.fr) ⟨by omega, by omega⟩
        refine wpOp_go (E := True) rfl rfl (fun K' hK => ?_)
        go_simp
        refine hK.out _ _ ⟨ρ, (by simp only [put, e5, e7, hwr8]; rfl), fun _ _ => rfl, hW.pure rfl rfl (by omega)⟩
      · have e8 : u 8 = .int .i64 (x.to - x.fr) := hu 8 (all_of hp (by kernel_rfl))
        have hwr9 := IntWalk.i64_in (x.to - x.fr + 1) ⟨by omega, by omega⟩
        refine wpOp_go (E := True) rfl rfl (fun K' hK => ?_)
        go_simp
        refine hK.out _ _ ⟨ρ, (by simp only [put, e8, hwr9]; rfl), fun _ _ => rfl, hW.pure rfl rfl (by omega)⟩
      · have e9 : u 9 = .int .i64 (x.to - x.fr + 1) := hu 9 (all_of hp (by kernel_rfl))
        refine wpOp_go (E := True) rfl rfl (fun K' hK => ?_)
        go_simp
        refine hK.out _ _ ⟨ρ, (by simp only [put, e9]; rfl), fun _ _ => rfl, hW.pure rfl rfl (by omega)⟩
      · have e10 : u 10 = .int .i64 (min 3 (x.to - x.fr + 1)) := hu 10 (all_of hp (by kernel_rfl))
        refine wpOp_go (E := True) rfl rfl (fun K' hK => ?_)
        go_simp
        refine hK.out _ _ ⟨ρ, (by simp only [put, e10]; rfl), fun _ _ => rfl, hW.pure rfl rfl (by omega)⟩
      · have e3 : u 3 = .pointer (some ⟨p, 0, none⟩) := hu 3 (all_of hp (by kernel_rfl))
        have e11 : u 11 = .int .i64 (max 1 (min 3 (x.to - x.fr + 1))) := hu 11 (all_of hp (by kernel_rfl))
        have nks : L 16 = false := no_later hc hl (by kernel_rfl)
        refine wpOp_go (E := True) rfl rfl (fun K' hK => ?_)
        go_simp
        go_at_call 49
        refine (spec_l01Next _ _ _ (hW.sr nks) (by omega)).mono ?_
        rintro e' w5 ⟨r, rfl, ra, rz, rb, hs5, hk5⟩
        have rc : r < 4 := by by_cases h1 : (max 1 (min 3 (x.to - x.fr + 1))) ≤ 1; (have := rz h1; omega); (have := rb (by omega); omega)
        refine hK.out _ _ ⟨ρ.drawn 12 r, (by simp only [put, e3, e11]; rfl), fun j hj => by
            have n13 : L 13 = false := no_later hc hl (by kernel_rfl)
            have n14 : L 14 = false := no_later hc n13 (by kernel_rfl)
            have n16 : L 16 = false := no_later hc n14 (by kernel_rfl)
            match j, hj with
            | 0, _ => rfl
            | 1, _ => rfl
            | 2, _ => rfl
            | 3, _ => rfl
            | 4, _ => rfl
            | 5, _ => rfl
            | 6, _ => rfl
            | 7, _ => rfl
            | 8, _ => rfl
            | 9, _ => rfl
            | 10, _ => rfl
            | 11, _ => rfl
            | 12, hj => rw [hl] at hj; cases hj
            | 13, hj => rw [n13] at hj; cases hj
            | 14, hj => rw [n14] at hj; cases hj
            | 15, _ => rfl
            | 16, hj => rw [n16] at hj; cases hj
            | _ + 17, _ => rfl, hW.call rfl (by omega) nks (by omega) hk5 hs5 (fun h1 => h1.keep hk5 (by omega)) (by intro n hn; simp at hn; omega)⟩
      · have e2 : u 2 = .int .i64 x.fr := hu 2 (all_of hp (by kernel_rfl))
        have e12 : u 12 = .int .i64 (ρ.r 12) := hu 12 (all_of hp (by kernel_rfl))
        obtain ⟨ra12, rb12⟩ := hW.dr 12 (4) (by simp) (all_of hp (by kernel_rfl))
        have hwr13 := IntWalk.i64_in (x.fr + ρ.r 12) ⟨by omega, by omega⟩
        refine wpOp_go (E := True) rfl rfl (fun K' hK => ?_)
        go_simp
        refine hK.out _ _ ⟨ρ, (by simp only [put, e2, e12, hwr13]; rfl), fun _ _ => rfl, hW.pure rfl rfl (by omega)⟩
      · have e0 : u 0 = .int .i64 (k : Int) := hu 0 (all_of hp (by kernel_rfl))
        have e13 : u 13 = .int .i64 (x.fr + ρ.r 12) := hu 13 (all_of hp (by kernel_rfl))
        obtain ⟨ra12, rb12⟩ := hW.dr 12 (4) (by simp) (all_of (hc 13 (all_of hp (by kernel_rfl))) (by kernel_rfl))
        refine wpOp_go (E := True) rfl rfl (fun K' hK => ?_)
        go_simp
        refine hK.out _ _ ⟨ρ, (by simp only [put, e0, e13]; rfl), fun _ _ => rfl, hW.pure rfl rfl (by omega)⟩
      · refine wpOp_go (E := True) rfl rfl (fun K' hK => ?_)
        go_simp
        generalize hW5 : World.alloc wx _ = w5
        have hb5 : Below wx.heap.size wx w5 := by rw [← hW5]; (repeat' (first | (with_reducible exact Below.refl _ _) | (with_reducible assumption) | (with_reducible refine Below.alloc ?_ ?_ _) | (with_reducible refine Below.drew ?_) | (with_reducible refine Below.drewN' ?_ _) | (with_reducible refine Below.setCell ?_ ?_ _) | (refine Below.via ?_ (by with_reducible assumption) ?_) | (with_reducible refine Below.via ?_ (Wd.h _) ?_) | go_size))
        have hx5 : Bx w5 wx.heap.size (([0, 0, 0, 0] : List Int).map iV) := by rw [← hW5]; exact bx4 (by simp) (by simp) (by simp) (by simp) (by simp) (by simp) (by simp) (by simp) (by simp)
        clear hW5
        refine hK.out _ _ ⟨ρ.made 15 wx.heap.size [0, 0, 0, 0], (by simp only [put]; rfl), fun j hj => by
            have n16 : L 16 = false := no_later hc hl (by kernel_rfl)
            match j, hj with
            | 0, _ => rfl
            | 1, _ => rfl
            | 2, _ => rfl
            | 3, _ => rfl
            | 4, _ => rfl
            | 5, _ => rfl
            | 6, _ => rfl
            | 7, _ => rfl
            | 8, _ => rfl
            | 9, _ => rfl
            | 10, _ => rfl
            | 11, _ => rfl
            | 12, _ => rfl
            | 13, _ => rfl
            | 14, _ => rfl
            | 15, hj => rw [hl] at hj; cases hj
            | 16, hj => rw [n16] at hj; cases hj
            | _ + 17, _ => rfl, hW.made rfl (by omega) hb5 (fun h1 => h1.below hb5 h1.lt) (fun h1 => h1.below hb5) hx5 (by intro k lo hi hm; simp at hm; obtain ⟨rfl, rfl, rfl⟩ := hm; refine ⟨rfl, fun x hx => ?_⟩; simp at hx; omega)⟩
      · have e15 : u 15 = .pointer (some ⟨ρ.b 15, 0, none⟩) := hu 15 (all_of hp (by kernel_rfl))
        have e14 : u 14 = .agg #[.int .i64 (k : Int), .int .i64 (x.fr + ρ.r 12), .int .i64 0, .int .i64 0] := hu 14 (all_of hp (by kernel_rfl))
        obtain ⟨ra12, rb12⟩ := hW.dr 12 (4) (by simp) (all_of (hc 13 (all_of (hc 14 (all_of hp (by kernel_rfl))) (by kernel_rfl))) (by kernel_rfl))
        obtain ⟨rr1, rr2⟩ := hW.dr 12 4 (by simp) (all_of (hc 13 (all_of (hc 14 (all_of hp (by kernel_rfl))) (by kernel_rfl))) (by kernel_rfl))
        obtain ⟨hm1, hm2⟩ := hW.md 15 4 (-2500000) 2500000 (by simp) (all_of hp (by kernel_rfl))
        obtain ⟨a1, a2, a3, a4, hc4⟩ := fourN (hW.cl 15 4 (-2500000) 2500000 (by simp) (all_of hp (by kernel_rfl))).1
        rw [hc4] at hm2
        have hyX := hm2.lt
        have xx0 := hm2.cell 0 rfl
        have xx1 := hm2.cell 1 rfl
        have xx2 := hm2.cell 2 rfl
        have xx3 := hm2.cell 3 rfl
        have xf0 := hm2.frozen 0 rfl
        have xf1 := hm2.frozen 1 rfl
        have xf2 := hm2.frozen 2 rfl
        have xf3 := hm2.frozen 3 rfl
        clear hc4
        refine wpOp_go (E := True) rfl rfl (fun K' hK => ?_)
        go_simp
        refine hK.out _ _ ⟨ρ.made 15 (ρ.b 15) [(k : Int), x.fr + ρ.r 12, 0, 0], (by simp only [put, e15, e14]; rfl), (fun j hj => by match j, hj with | 0, _ => rfl | 1, _ => rfl | 2, _ => rfl | 3, _ => rfl | 4, _ => rfl | 5, _ => rfl | 6, _ => rfl | 7, _ => rfl | 8, _ => rfl | 9, _ => rfl | 10, _ => rfl | 11, _ => rfl | 12, _ => rfl | 13, _ => rfl | 14, _ => rfl | 15, _ => rfl | 16, _ => rfl | _ + 17, _ => rfl), hW.fill _ rfl rfl hm1 (by intro i x hx; simp at hx; exact hx.1) (bx4 (by simp; omega) (by simp [go_sem, xx0, xx1, xx2, xx3]) (by simp [go_sem, xf0]) (by simp [go_sem, xx0, xx1, xx2, xx3]) (by simp [go_sem, xf1]) (by simp [go_sem, xx0, xx1, xx2, xx3]) (by simp [go_sem, xf2]) (by simp [go_sem, xx0, xx1, xx2, xx3]) (by simp [go_sem, xf3])) (((((Keep.refl _ _).one _).one _).one _).one _) (by intro k lo hi hm; simp at hm; obtain ⟨rfl, rfl, rfl⟩ := hm; refine ⟨rfl, fun x hx => ?_⟩; simp at hx; omega) ((hW.sr hl).high (B := p + 1) (by (repeat' (first | (with_reducible exact Below.refl _ _) | (with_reducible assumption) | (with_reducible refine Below.alloc ?_ ?_ _) | (with_reducible refine Below.drew ?_) | (with_reducible refine Below.drewN' ?_ _) | (with_reducible refine Below.setCell ?_ ?_ _) | (refine Below.via ?_ (by with_reducible assumption) ?_) | (with_reducible refine Below.via ?_ (Wd.h _) ?_) | go_size))) (by omega))⟩
    · intro L ρ u wx hall hu hW
      have hkp := hW.kp
      have hs := hW.t1 (hall 16 (by show 16 < 17; omega))
      obtain ⟨hg, hbx⟩ := hW.md 15 4 (-2500000) 2500000 (by simp) (hall 15 (by show 15 < 17; omega))
      obtain ⟨hcl, hbds⟩ := hW.cl 15 4 (-2500000) 2500000 (by simp) (hall 15 (by show 15 < 17; omega))
      obtain ⟨a1, a2, a3, a4, hc4⟩ := fourN hcl
      have e15 : u 15 = .pointer (some ⟨ρ.b 15, 0, none⟩) := hu 15 (by show 15 < 17; omega)
      rw [hc4] at hbx hbds
      have q1 := hbds a1 (by simp)
      have q2 := hbds a2 (by simp)
      have q3 := hbds a3 (by simp)
      have q4 := hbds a4 (by simp)
      rw [e15]
      have HD := Lib.hid (show DN w p X (ρ.b 15) x ⟨a1, a2, a3, a4⟩ wx from ⟨hbx, HX2.out.keep hkp (fun q => q.elim (fun q => by omega) id), ⟨by dsimp only; omega, by dsimp only; omega, by dsimp only; omega, by dsimp only; omega⟩, hs, HK2.out.trans (hkp.wide fun k q => q.elim id False.elim), HB2.out.keep hkp (fun q => q.elim (fun q => by omega) id), by omega, by omega⟩)
      have hzx := hkp.size
      have hgl := hbx.lt
      clear hu hall hW hkp hs hbx hcl hbds hc4 e15 HX2 HS2 HK2 HB2
      generalize ρ.b 15 = g at *
      rename World => w3
      clear hlX hz2 hz1 ra
      have hsX := HD.out.sX
      go_wp2_with fail
      refine wp_region_tb (R := Zr) [some 39, some 40, some 41, some 42, some 43, some 44, some 45, some 46, some 47, none] _ (by intro u; simp only [frs, Act.put, List.setIfInBounds_toArray, List.set_cons_zero, List.set_cons_succ, Nat.reduceAdd]; exact rfl) (fun ρ j => ([.int .i64 fm, .pointer (some ⟨g, 1, none⟩), .int .i64 a2, .int .i64 (a2 - 2), .pointer (some ⟨p, 0, none⟩), .int .i64 (ρ.r 5), .int .i64 (a2 - 2 - ρ.r 5), .int .i64 (max fm (a2 - 2 - ρ.r 5)), .pointer (some ⟨g, 2, none⟩), undef] : List Value).getD j undef) (WZ p (fun k => k = g) [(5, 9)] [] 9 (fun wt => Bx wt g (Nom.cells ⟨a1, a2, a3, a4⟩) ∧ Bx wt X x.cells) (fun _ wt => ∃ v : Int, (-3000000 ≤ v ∧ v ≤ 3000000) ∧ Src wt p ∧ Bx wt g (Nom.cells ⟨a1, a2, v, a4⟩)) w3) (by kernel_rfl) (by kernel_rfl) Zr.zero (WZ.start (Keep.of_below _ (Below.drew (Below.refl _ _))) (HD.out.src.below (Below.drew (Below.refl _ _))) ⟨HD.out.bx.below (Below.drew (Below.refl w3.heap.size _)) HD.out.bx.lt, HD.out.bc.below (Below.drew (Below.refl w3.heap.size _)) HD.out.bc.lt⟩) ?_ ?_
      · intro ii hii L ρ u wx hl hp hc hu hn hW
        have hii : ii < 10 := hii
        have HNo := Lib.hid hn
        clear hn
        have hii : ii = 0 ∨ ii = 1 ∨ ii = 2 ∨ ii = 3 ∨ ii = 4 ∨ ii = 5 ∨ ii = 6 ∨ ii = 7 ∨ ii = 8 ∨ ii = 9 := by omega
        rcases hii with rfl | rfl | rfl | rfl | rfl | rfl | rfl | rfl | rfl | rfl
        · refine wpOp_go (E := True) rfl rfl (fun K' hK => ?_)
          go_simp
          refine hK.out _ _ ⟨ρ, (by simp only [put]; rfl), fun _ _ => rfl, hW.pure rfl rfl (by omega)⟩
        · refine wpOp_go (E := True) rfl rfl (fun K' hK => ?_)
          go_simp
          refine hK.out _ _ ⟨ρ, (by simp only [put]; rfl), fun _ _ => rfl, hW.pure rfl rfl (by omega)⟩
        · have e1 : u 1 = .pointer (some ⟨g, 1, none⟩) := hu 1 (all_of hp (by kernel_rfl))
          have xx1 := (hW.t0 (no_later (i := 7) hc (no_later (i := 6) hc (no_later (i := 3) hc (no_later hc hl (by kernel_rfl)) (by kernel_rfl)) (by kernel_rfl)) (by kernel_rfl))).1.cell 1 rfl
          refine wpOp_go (E := True) rfl rfl (fun K' hK => ?_)
          go_simp
          refine hK.out _ _ ⟨ρ, (by simp only [put, e1]; rfl), fun _ _ => rfl, hW.pure rfl rfl (by omega)⟩
        · have e2 : u 2 = .int .i64 a2 := hu 2 (all_of hp (by kernel_rfl))
          have hwr3 := IntWalk.i64_in (a2 - 2) ⟨by omega, by omega⟩
          refine wpOp_go (E := True) rfl rfl (fun K' hK => ?_)
          go_simp
          refine hK.out _ _ ⟨ρ, (by simp only [put, e2, hwr3]; rfl), fun _ _ => rfl, hW.pure rfl rfl (by omega)⟩
        · refine wpOp_go (E := True) rfl rfl (fun K' hK => ?_)
          go_simp
          refine hK.out _ _ ⟨ρ, (by simp only [put]; rfl), fun _ _ => rfl, hW.pure rfl rfl (by omega)⟩
        · have e4 : u 4 = .pointer (some ⟨p, 0, none⟩) := hu 4 (all_of hp (by kernel_rfl))
          have nks : L 9 = false := no_later hc hl (by kernel_rfl)
          refine wpOp_go (E := True) rfl rfl (fun K' hK => ?_)
          go_simp
          go_at_call 49
          refine (spec_l01Next _ _ _ (hW.sr nks) (by omega)).mono ?_
          rintro e' w5 ⟨r, rfl, ra, _, rb, hs5, hk5⟩
          have rc := rb (by omega)
          refine hK.out _ _ ⟨ρ.drawn 5 r, (by simp only [put, e4]; rfl), fun j hj => by
              have n6 : L 6 = false := no_later hc hl (by kernel_rfl)
              have n7 : L 7 = false := no_later hc n6 (by kernel_rfl)
              have n9 : L 9 = false := no_later hc n7 (by kernel_rfl)
              match j, hj with
              | 0, _ => rfl
              | 1, _ => rfl
              | 2, _ => rfl
              | 3, _ => rfl
              | 4, _ => rfl
              | 5, hj => rw [hl] at hj; cases hj
              | 6, hj => rw [n6] at hj; cases hj
              | 7, hj => rw [n7] at hj; cases hj
              | 8, _ => rfl
              | 9, hj => rw [n9] at hj; cases hj
              | _ + 10, _ => rfl, hW.call rfl (by omega) nks (by omega) hk5 hs5 (fun ⟨h1, h2⟩ => ⟨h1.keep hk5 (by omega), h2.keep hk5 (by omega)⟩) (by intro n hn; simp at hn; omega)⟩
        · have e3 : u 3 = .int .i64 (a2 - 2) := hu 3 (all_of hp (by kernel_rfl))
          have e5 : u 5 = .int .i64 (ρ.r 5) := hu 5 (all_of hp (by kernel_rfl))
          obtain ⟨ra5, rb5⟩ := hW.dr 5 (9) (by simp) (all_of hp (by kernel_rfl))
          have hwr6 := IntWalk.i64_in (a2 - 2 - ρ.r 5) ⟨by omega, by omega⟩
          refine wpOp_go (E := True) rfl rfl (fun K' hK => ?_)
          go_simp
          refine hK.out _ _ ⟨ρ, (by simp only [put, e3, e5, hwr6]; rfl), fun _ _ => rfl, hW.pure rfl rfl (by omega)⟩
        · have e0 : u 0 = .int .i64 fm := hu 0 (all_of hp (by kernel_rfl))
          have e6 : u 6 = .int .i64 (a2 - 2 - ρ.r 5) := hu 6 (all_of hp (by kernel_rfl))
          obtain ⟨ra5, rb5⟩ := hW.dr 5 (9) (by simp) (all_of (hc 6 (all_of hp (by kernel_rfl))) (by kernel_rfl))
          refine wpOp_go (E := True) rfl rfl (fun K' hK => ?_)
          go_simp
          refine hK.out _ _ ⟨ρ, (by simp only [put, e0, e6]; rfl), fun _ _ => rfl, hW.pure rfl rfl (by omega)⟩
        · refine wpOp_go (E := True) rfl rfl (fun K' hK => ?_)
          go_simp
          refine hK.out _ _ ⟨ρ, (by simp only [put]; rfl), fun _ _ => rfl, hW.pure rfl rfl (by omega)⟩
        · have e8 : u 8 = .pointer (some ⟨g, 2, none⟩) := hu 8 (all_of hp (by kernel_rfl))
          have e7 : u 7 = .int .i64 (max fm (a2 - 2 - ρ.r 5)) := hu 7 (all_of hp (by kernel_rfl))
          obtain ⟨ra5, rb5⟩ := hW.dr 5 (9) (by simp) (all_of (hc 6 (all_of (hc 7 (all_of hp (by kernel_rfl))) (by kernel_rfl))) (by kernel_rfl))
          obtain ⟨rr1, rr2⟩ := hW.dr 5 9 (by simp) (all_of (hc 6 (all_of (hc 7 (all_of hp (by kernel_rfl))) (by kernel_rfl))) (by kernel_rfl))
          have hb0 := (hW.t0 hl).1
          have hyX := hb0.lt
          have xx0 := hb0.cell 0 rfl
          have xx1 := hb0.cell 1 rfl
          have xx2 := hb0.cell 2 rfl
          have xx3 := hb0.cell 3 rfl
          have xf0 := hb0.frozen 0 rfl
          have xf1 := hb0.frozen 1 rfl
          have xf2 := hb0.frozen 2 rfl
          have xf3 := hb0.frozen 3 rfl
          clear hb0
          refine wpOp_go (E := True) rfl rfl (fun K' hK => ?_)
          go_simp
          refine hK.out _ _ ⟨ρ, (by simp only [put, e8, e7]; rfl), fun _ _ => rfl, hW.store rfl rfl (by intro k q; omega) ((((Keep.refl (· = g) _).one _)).wide fun k q => Or.inr q) ⟨max fm (a2 - 2 - ρ.r 5), (by omega), (hW.sr hl).high (B := p + 1) (by (repeat' (first | (with_reducible exact Below.refl _ _) | (with_reducible assumption) | (with_reducible refine Below.alloc ?_ ?_ _) | (with_reducible refine Below.drew ?_) | (with_reducible refine Below.drewN' ?_ _) | (with_reducible refine Below.setCell ?_ ?_ _) | (refine Below.via ?_ (by with_reducible assumption) ?_) | (with_reducible refine Below.via ?_ (Wd.h _) ?_) | go_size))) (by omega), bx4 (by simp; omega) (by simp [go_sem, xx0, xx1, xx2, xx3]) (by simp [go_sem, xf0]) (by simp [go_sem, xx0, xx1, xx2, xx3]) (by simp [go_sem, xf1]) (by simp [go_sem, xx0, xx1, xx2, xx3]) (by simp [go_sem, xf2]) (by simp [go_sem, xx0, xx1, xx2, xx3]) (by simp [go_sem, xf3])⟩⟩
      · intro L ρ u wx hall hu hW
        obtain ⟨v, hv1, hsv, hbv⟩ := hW.t1 (hall 9 (by show 9 < 10; omega))
        have HD2 := Lib.hid (HD.out.put2 (y' := ⟨a1, a2, v, a4⟩) hp hW.kp hsv hbv (by have h := HD.out.sm; exact ⟨h.con, h.hr, hv1, h.am⟩))
        have hzz := hW.kp.size
        clear hu hall hW hv1 hsv hbv HD
        rename World => w4
        have hb0 := HD2.out.bc
        have hy8 := hb0.lt; have cw8_0 := hb0.cell 0 rfl; have fw8_0 := hb0.frozen 0 rfl; have cw8_1 := hb0.cell 1 rfl; have fw8_1 := hb0.frozen 1 rfl; have cw8_2 := hb0.cell 2 rfl; have fw8_2 := hb0.frozen 2 rfl; have cw8_3 := hb0.cell 3 rfl; have fw8_3 := hb0.frozen 3 rfl; have cw8_4 := hb0.cell 4 rfl; have fw8_4 := hb0.frozen 4 rfl; have cw8_5 := hb0.cell 5 rfl; have fw8_5 := hb0.frozen 5 rfl; have cw8_6 := hb0.cell 6 rfl; have fw8_6 := hb0.frozen 6 rfl; have cw8_7 := hb0.cell 7 rfl; have fw8_7 := hb0.frozen 7 rfl
        clear hb0
        go_wp2_with fail
        refine (spec_l01Next p _ _ HD2.out.src (by omega)).mono ?_
        rintro e w5 ⟨m, rfl, ma, mz, mb, hs5, hk5⟩
        have mc : m ≤ 2500000 := by
          by_cases h1 : (max 1 (x.am + 1)) ≤ 1
          · have := mz h1; omega
          · have := mb (by omega); omega
        have HD3 := Lib.hid (HD2.out.keep hp hk5 hs5)
        have hz5 := hk5.size
        clear hs5 hk5 mz mb HD2 hy8 cw8_0 fw8_0 cw8_1 fw8_1 cw8_2 fw8_2 cw8_3 fw8_3 cw8_4 fw8_4 cw8_5 fw8_5 cw8_6 fw8_6 cw8_7 fw8_7
        have hb0 := HD3.out.bx
        have hy9 := hb0.lt; have cw9_0 := hb0.cell 0 rfl; have fw9_0 := hb0.frozen 0 rfl; have cw9_1 := hb0.cell 1 rfl; have fw9_1 := hb0.frozen 1 rfl; have cw9_2 := hb0.cell 2 rfl; have fw9_2 := hb0.frozen 2 rfl; have cw9_3 := hb0.cell 3 rfl; have fw9_3 := hb0.frozen 3 rfl
        clear hb0
        go_upto_region 8 with (fail)
        have HD4 := Lib.hid (HD3.out.put2 (y' := ⟨a1, a2, v, m⟩) hp (wr' := w5.setCell ⟨g, 3, none⟩ (.int .i64 m)) ((((Keep.refl (· = g) _).one _)).wide fun k q => Or.inr q) (HD3.out.src.high (B := p + 1) (by (repeat' (first | (with_reducible exact Below.refl _ _) | (with_reducible assumption) | (with_reducible refine Below.alloc ?_ ?_ _) | (with_reducible refine Below.drew ?_) | (with_reducible refine Below.drewN' ?_ _) | (with_reducible refine Below.setCell ?_ ?_ _) | (refine Below.via ?_ (by with_reducible assumption) ?_) | (with_reducible refine Below.via ?_ (Wd.h _) ?_) | go_size))) (by omega)) (bx4 (by simp; omega) (by simp [go_sem, cw9_0, cw9_1, cw9_2, cw9_3]) (by simp [go_sem, fw9_0]) (by simp [go_sem, cw9_0, cw9_1, cw9_2, cw9_3]) (by simp [go_sem, fw9_1]) (by simp [go_sem, cw9_0, cw9_1, cw9_2, cw9_3]) (by simp [go_sem, fw9_2]) (by simp [go_sem, cw9_0, cw9_1, cw9_2, cw9_3]) (by simp [go_sem, fw9_3])) (by have h := HD3.out.sm; exact ⟨h.con, h.hr, h.sent, (by dsimp only; omega)⟩))
        clear hy9 cw9_0 cw9_1 cw9_2 cw9_3 fw9_0 fw9_1 fw9_2 fw9_3 HD3
        generalize World.setCell w5 _ _ = w6 at *
        go_wp2_with fail
        refine (spec_l01Next p _ _ HD4.out.src (by omega)).mono ?_
        rintro e w7 ⟨z, rfl, za, _, zb, hs7, hk7⟩
        have HDA := Lib.hid (HD4.out.keep hp hk7 hs7)
        have hzA7 := HDA.out.kp.size
        have hgA7 := HDA.out.bx.lt
        clear hs7 hk7 zb HD4
        by_cases e0 : z = 0
        · subst e0
          go_wp2_with fail
          refine (spec_l01Next p _ _ (HDA.out.src.below (by (repeat' (first | (with_reducible exact Below.refl _ _) | (with_reducible assumption) | (with_reducible refine Below.alloc ?_ ?_ _) | (with_reducible refine Below.drew ?_) | (with_reducible refine Below.drewN' ?_ _) | (with_reducible refine Below.setCell ?_ ?_ _) | (refine Below.via ?_ (by with_reducible assumption) ?_) | (with_reducible refine Below.via ?_ (Wd.h _) ?_) | go_size)))) (by omega)).mono ?_
          rintro e w4' ⟨r, rfl, ra, _, rb, hs4, hk4⟩
          have rc := rb (by omega)
          have rn : r.toNat < 2 := by omega
          have hzA := HDA.out.bx.lt
          have hld := (hk4.cell w7.heap.size r.toNat (by simp) (by have := HDA.out.kp.size; omega)).trans (litC2 w7 2 (-1) (lb.length : Int) r.toNat rn)
          have HDB := Lib.hid ((HDA.out.below (Below.alloc (Below.refl _ w7) (Nat.le_refl _) _)).keep hp hk4 hs4)
          have hz4 := hk4.size
          simp at hz4
          clear hs4 hk4 rb HDA
          have hb0 := HDB.out.bx
          have hy9 := hb0.lt; have cw9_0 := hb0.cell 0 rfl; have fw9_0 := hb0.frozen 0 rfl; have cw9_1 := hb0.cell 1 rfl; have fw9_1 := hb0.frozen 1 rfl; have cw9_2 := hb0.cell 2 rfl; have fw9_2 := hb0.frozen 2 rfl; have cw9_3 := hb0.cell 3 rfl; have fw9_3 := hb0.frozen 3 rfl
          clear hb0
          go_upto_region 17 with (fail)
          have HDF := Lib.hid (HDB.out.put2 (y' := ⟨pick [-1, (lb.length : Int)] r.toNat, a2, v, m⟩) hp (wr' := w4'.setCell ⟨g, 0, none⟩ (.int .i64 (pick [-1, (lb.length : Int)] r.toNat))) ((((Keep.refl (· = g) _).one _)).wide fun k q => Or.inr q) (HDB.out.src.high (B := p + 1) (by (repeat' (first | (with_reducible exact Below.refl _ _) | (with_reducible assumption) | (with_reducible refine Below.alloc ?_ ?_ _) | (with_reducible refine Below.drew ?_) | (with_reducible refine Below.drewN' ?_ _) | (with_reducible refine Below.setCell ?_ ?_ _) | (refine Below.via ?_ (by with_reducible assumption) ?_) | (with_reducible refine Below.via ?_ (Wd.h _) ?_) | go_size))) (by omega)) (bx4 (by simp; omega) (by simp [go_sem, cw9_0, cw9_1, cw9_2, cw9_3]) (by simp [go_sem, fw9_0]) (by simp [go_sem, cw9_0, cw9_1, cw9_2, cw9_3]) (by simp [go_sem, fw9_1]) (by simp [go_sem, cw9_0, cw9_1, cw9_2, cw9_3]) (by simp [go_sem, fw9_2]) (by simp [go_sem, cw9_0, cw9_1, cw9_2, cw9_3]) (by simp [go_sem, fw9_3])) (by have h := HDB.out.sm; exact ⟨(by have h2 := pick2_sm (a := -1) (b := (lb.length : Int)) ⟨by omega, by omega⟩ ⟨by omega, by omega⟩ rn; dsimp only; omega), h.hr, h.sent, h.am⟩))
          clear hy9 cw9_0 cw9_1 cw9_2 cw9_3 fw9_0 fw9_1 fw9_2 fw9_3 HDB hld
          generalize World.setCell w4' _ _ = wF at *
          have hb0 := HDF.out.bx
          have hy9 := hb0.lt; have cw9_0 := hb0.cell 0 rfl; have fw9_0 := hb0.frozen 0 rfl; have cw9_1 := hb0.cell 1 rfl; have fw9_1 := hb0.frozen 1 rfl; have cw9_2 := hb0.cell 2 rfl; have fw9_2 := hb0.frozen 2 rfl; have cw9_3 := hb0.cell 3 rfl; have fw9_3 := hb0.frozen 3 rfl
          clear hb0
          have hb0 := HDF.out.b6
          have hy6 := hb0.lt; have cw6_0 := hb0.cell 0 rfl; have fw6_0 := hb0.frozen 0 rfl; have cw6_1 := hb0.cell 1 rfl; have fw6_1 := hb0.frozen 1 rfl; have cw6_2 := hb0.cell 2 rfl; have fw6_2 := hb0.frozen 2 rfl; have cw6_3 := hb0.cell 3 rfl; have fw6_3 := hb0.frozen 3 rfl
          clear hb0
          go_wp2
          refine bodyPost_ret (by simp [results, Try.results64, go_sem, cw6_0, cw6_1, cw6_2, cw6_3]; try rfl) rfl ?_
          have hsXF := HDF.out.sX
          exact ⟨_, rfl, HDF.out.sm, HDF.out.src.high (B := p + 1) (by (repeat' (first | (with_reducible exact Below.refl _ _) | (with_reducible assumption) | (with_reducible refine Below.alloc ?_ ?_ _) | (with_reducible refine Below.drew ?_) | (with_reducible refine Below.drewN' ?_ _) | (with_reducible refine Below.setCell ?_ ?_ _) | (refine Below.via ?_ (by with_reducible assumption) ?_) | (with_reducible refine Below.via ?_ (Wd.h _) ?_) | go_size))) (by omega), by have h1 := HDF.out.kp; (repeat' (first | (with_reducible exact Keep.refl _ _) | (with_reducible assumption) | (with_reducible refine Keep.alloc ?_ _) | (with_reducible refine Keep.drew ?_) | (with_reducible refine Keep.drewN ?_ _) | (refine Keep.trans ?_ (by with_reducible assumption)) | (refine Keep.via ?_ (by with_reducible assumption)) | (with_reducible refine Keep.new ?_ ?_ _) | go_size))⟩
        have n0 : (z == 0) = false := by simpa using e0
        by_cases e1 : z = 1
        · subst e1
          go_wp2_with fail
          refine wp_region_tb (R := Zr) [some 69, some 70, some 71, some 72, some 73, some 74, some 75, some 76, some 77, none] _ (by intro u; simp only [frs, Act.put, List.setIfInBounds_toArray, List.set_cons_zero, List.set_cons_succ, Nat.reduceAdd]; exact rfl) (fun ρ j => ([.pointer (some ⟨X, 6, none⟩), .int .i64 x.to, .int .i64 (x.to + 1), .slice (some ⟨ρ.b 3, 0, none⟩) 3 3, .pointer (some ⟨p, 0, none⟩), .int .i64 (ρ.r 5), .pointer (some ⟨ρ.b 3, (ρ.r 5).toNat, none⟩), .int .i64 ((ρ.c 3).getD (ρ.r 5).toNat 0), .pointer (some ⟨g, 1, none⟩), undef] : List Value).getD j undef) (WZ p (fun k => k = g) [(5, 3)] [(3, 3, -2200000, 2200000)] 9 (fun wt => Bx wt g (Nom.cells ⟨a1, a2, v, m⟩) ∧ Bx wt X x.cells) (fun _ wt => ∃ v' : Int, (-2500000 ≤ v' ∧ v' ≤ 2500000) ∧ Src wt p ∧ Bx wt g (Nom.cells ⟨a1, v', v, m⟩)) w7) (by kernel_rfl) (by kernel_rfl) Zr.zero (WZ.start (Keep.of_below _ (Below.drew (Below.refl _ _))) (HDA.out.src.below (Below.drew (Below.refl _ _))) ⟨HDA.out.bx.below (Below.drew (Below.refl w7.heap.size _)) HDA.out.bx.lt, HDA.out.bc.below (Below.drew (Below.refl w7.heap.size _)) HDA.out.bc.lt⟩) ?_ ?_
          · intro ii hii L ρ u wx hl hp hc hu hn hW
            have hii : ii < 10 := hii
            have HNo := Lib.hid hn
            clear hn
            have hii : ii = 0 ∨ ii = 1 ∨ ii = 2 ∨ ii = 3 ∨ ii = 4 ∨ ii = 5 ∨ ii = 6 ∨ ii = 7 ∨ ii = 8 ∨ ii = 9 := by omega
            rcases hii with rfl | rfl | rfl | rfl | rfl | rfl | rfl | rfl | rfl | rfl
            · refine wpOp_go (E := True) rfl rfl (fun K' hK => ?_)
              go_simp
              refine hK.out _ _ ⟨ρ, (by simp only [put]; rfl), fun _ _ => rfl, hW.pure rfl rfl (by omega)⟩
            · have e0 : u 0 = .pointer (some ⟨X, 6, none⟩) := hu 0 (all_of hp (by kernel_rfl))
              have xx6 := (hW.t0 (no_later (i := 7) hc (no_later (i := 6) hc (no_later (i := 3) hc (no_later (i := 2) hc (no_later hc hl (by kernel_rfl)) (by kernel_rfl)) (by kernel_rfl)) (by kernel_rfl)) (by kernel_rfl))).2.cell 6 rfl
              refine wpOp_go (E := True) rfl rfl (fun K' hK => ?_)
              go_simp
              refine hK.out _ _ ⟨ρ, (by simp only [put, e0]; rfl), fun _ _ => rfl, hW.pure rfl rfl (by omega)⟩
            · have e1 : u 1 = .int .i64 x.to := hu 1 (all_of hp (by kernel_rfl))
              have hwr2 := IntWalk.i64_in (x.to + 1) ⟨by omega, by omega⟩
              refine wpOp_go (E := True) rfl rfl (fun K' hK => ?_)
              go_simp
              refine hK.out _ _ ⟨ρ, (by simp only [put, e1, hwr2]; rfl), fun _ _ => rfl, hW.pure rfl rfl (by omega)⟩
            · have e2 : u 2 = .int .i64 (x.to + 1) := hu 2 (all_of hp (by kernel_rfl))
              refine wpOp_go (E := True) rfl rfl (fun K' hK => ?_)
              go_simp
              generalize hW5 : World.alloc wx _ = w5
              have hb5 : Below wx.heap.size wx w5 := by rw [← hW5]; (repeat' (first | (with_reducible exact Below.refl _ _) | (with_reducible assumption) | (with_reducible refine Below.alloc ?_ ?_ _) | (with_reducible refine Below.drew ?_) | (with_reducible refine Below.drewN' ?_ _) | (with_reducible refine Below.setCell ?_ ?_ _) | (refine Below.via ?_ (by with_reducible assumption) ?_) | (with_reducible refine Below.via ?_ (Wd.h _) ?_) | go_size))
              have hx5 : Bx w5 wx.heap.size (([-1, x.to + 1, 48] : List Int).map iV) := by rw [← hW5]; exact bx3 (by simp) (by simp) (by simp) (by simp) (by simp) (by simp) (by simp)
              clear hW5
              refine hK.out _ _ ⟨ρ.made 3 wx.heap.size [-1, x.to + 1, 48], (by simp only [put, e2]; rfl), fun j hj => by
                  have n6 : L 6 = false := no_later hc hl (by kernel_rfl)
                  have n7 : L 7 = false := no_later hc n6 (by kernel_rfl)
                  have n9 : L 9 = false := no_later hc n7 (by kernel_rfl)
                  match j, hj with
                  | 0, _ => rfl
                  | 1, _ => rfl
                  | 2, _ => rfl
                  | 3, hj => rw [hl] at hj; cases hj
                  | 4, _ => rfl
                  | 5, _ => rfl
                  | 6, hj => rw [n6] at hj; cases hj
                  | 7, hj => rw [n7] at hj; cases hj
                  | 8, _ => rfl
                  | 9, hj => rw [n9] at hj; cases hj
                  | _ + 10, _ => rfl, hW.made rfl (by omega) hb5 (fun ⟨h1, h2⟩ => ⟨h1.below hb5 h1.lt, h2.below hb5 h2.lt⟩) (fun ⟨v, h1, h3, h4⟩ => ⟨v, h1, h3.below hb5, h4.below hb5 h4.lt⟩) hx5 (by intro k lo hi hm; simp at hm; obtain ⟨rfl, rfl, rfl⟩ := hm; refine ⟨rfl, fun x hx => ?_⟩; simp at hx; omega)⟩
            · refine wpOp_go (E := True) rfl rfl (fun K' hK => ?_)
              go_simp
              refine hK.out _ _ ⟨ρ, (by simp only [put]; rfl), fun _ _ => rfl, hW.pure rfl rfl (by omega)⟩
            · have e4 : u 4 = .pointer (some ⟨p, 0, none⟩) := hu 4 (all_of hp (by kernel_rfl))
              have nks : L 9 = false := no_later hc hl (by kernel_rfl)
              refine wpOp_go (E := True) rfl rfl (fun K' hK => ?_)
              go_simp
              go_at_call 49
              refine (spec_l01Next _ _ _ (hW.sr nks) (by omega)).mono ?_
              rintro e' w5 ⟨r, rfl, ra, _, rb, hs5, hk5⟩
              have rc := rb (by omega)
              refine hK.out _ _ ⟨ρ.drawn 5 r, (by simp only [put, e4]; rfl), fun j hj => by
                  have n6 : L 6 = false := no_later hc hl (by kernel_rfl)
                  have n7 : L 7 = false := no_later hc n6 (by kernel_rfl)
                  have n9 : L 9 = false := no_later hc n7 (by kernel_rfl)
                  match j, hj with
                  | 0, _ => rfl
                  | 1, _ => rfl
                  | 2, _ => rfl
                  | 3, _ => rfl
                  | 4, _ => rfl
                  | 5, hj => rw [hl] at hj; cases hj
                  | 6, hj => rw [n6] at hj; cases hj
                  | 7, hj => rw [n7] at hj; cases hj
                  | 8, _ => rfl
                  | 9, hj => rw [n9] at hj; cases hj
                  | _ + 10, _ => rfl, hW.call rfl (by omega) nks (by omega) hk5 hs5 (fun ⟨h1, h2⟩ => ⟨h1.keep hk5 (by omega), h2.keep hk5 (by omega)⟩) (by intro n hn; simp at hn; omega)⟩
            · have e3 : u 3 = .slice (some ⟨ρ.b 3, 0, none⟩) 3 3 := hu 3 (all_of hp (by kernel_rfl))
              have e5 : u 5 = .int .i64 (ρ.r 5) := hu 5 (all_of hp (by kernel_rfl))
              obtain ⟨ra5, rb5⟩ := hW.dr 5 (3) (by simp) (all_of hp (by kernel_rfl))
              obtain ⟨pk1, -, -, -, -⟩ := hW.pick (i := 3) (j := 5) (k := 3) (lo := -2200000) (hi := 2200000) (n := 3) (by simp) (by simp) (by omega) (all_of hp (by kernel_rfl)) (all_of hp (by kernel_rfl))
              refine wpOp_go (E := True) rfl rfl (fun K' hK => ?_)
              go_simp
              refine hK.out _ _ ⟨ρ, (by simp only [put, e3, e5]; rfl), fun _ _ => rfl, hW.pure rfl rfl (by omega)⟩
            · have e6 : u 6 = .pointer (some ⟨ρ.b 3, (ρ.r 5).toNat, none⟩) := hu 6 (all_of hp (by kernel_rfl))
              obtain ⟨ra5, rb5⟩ := hW.dr 5 (3) (by simp) (all_of (hc 6 (all_of hp (by kernel_rfl))) (by kernel_rfl))
              obtain ⟨pk1, -, pk3, -, -⟩ := hW.pick (i := 3) (j := 5) (k := 3) (lo := -2200000) (hi := 2200000) (n := 3) (by simp) (by simp) (by omega) (all_of (hc 6 (all_of hp (by kernel_rfl))) (by kernel_rfl)) (all_of (hc 6 (all_of hp (by kernel_rfl))) (by kernel_rfl))
              have pk4 := (hW.md 3 3 (-2200000) (2200000) (by simp) (all_of (hc 6 (all_of hp (by kernel_rfl))) (by kernel_rfl))).2.cell (ρ.r 5).toNat (by rw [List.getElem?_map, pk3]; rfl)
              clear pk3
              refine wpOp_go (E := True) rfl rfl (fun K' hK => ?_)
              go_simp
              refine hK.out _ _ ⟨ρ, (by simp only [put, e6]; rfl), fun _ _ => rfl, hW.pure rfl rfl (by omega)⟩
            · refine wpOp_go (E := True) rfl rfl (fun K' hK => ?_)
              go_simp
              refine hK.out _ _ ⟨ρ, (by simp only [put]; rfl), fun _ _ => rfl, hW.pure rfl rfl (by omega)⟩
            · have e8 : u 8 = .pointer (some ⟨g, 1, none⟩) := hu 8 (all_of hp (by kernel_rfl))
              have e7 : u 7 = .int .i64 ((ρ.c 3).getD (ρ.r 5).toNat 0) := hu 7 (all_of hp (by kernel_rfl))
              obtain ⟨ra5, rb5⟩ := hW.dr 5 (3) (by simp) (all_of (hc 6 (all_of (hc 7 (all_of hp (by kernel_rfl))) (by kernel_rfl))) (by kernel_rfl))
              obtain ⟨pk1, -, -, pk4, pk5⟩ := hW.pick (i := 3) (j := 5) (k := 3) (lo := -2200000) (hi := 2200000) (n := 3) (by simp) (by simp) (by omega) (all_of (hc 6 (all_of (hc 7 (all_of hp (by kernel_rfl))) (by kernel_rfl))) (by kernel_rfl)) (all_of (hc 6 (all_of (hc 7 (all_of hp (by kernel_rfl))) (by kernel_rfl))) (by kernel_rfl))
              have hb0 := (hW.t0 hl).1
              have hyX := hb0.lt
              have xx0 := hb0.cell 0 rfl
              have xx1 := hb0.cell 1 rfl
              have xx2 := hb0.cell 2 rfl
              have xx3 := hb0.cell 3 rfl
              have xf0 := hb0.frozen 0 rfl
              have xf1 := hb0.frozen 1 rfl
              have xf2 := hb0.frozen 2 rfl
              have xf3 := hb0.frozen 3 rfl
              clear hb0
              refine wpOp_go (E := True) rfl rfl (fun K' hK => ?_)
              go_simp
              refine hK.out _ _ ⟨ρ, (by simp only [put, e8, e7]; rfl), fun _ _ => rfl, hW.store rfl rfl (by intro k q; omega) ((((Keep.refl (· = g) _).one _)).wide fun k q => Or.inr q) ⟨(ρ.c 3).getD (ρ.r 5).toNat 0, (by omega), (hW.sr hl).high (B := p + 1) (by (repeat' (first | (with_reducible exact Below.refl _ _) | (with_reducible assumption) | (with_reducible refine Below.alloc ?_ ?_ _) | (with_reducible refine Below.drew ?_) | (with_reducible refine Below.drewN' ?_ _) | (with_reducible refine Below.setCell ?_ ?_ _) | (refine Below.via ?_ (by with_reducible assumption) ?_) | (with_reducible refine Below.via ?_ (Wd.h _) ?_) | go_size))) (by omega), bx4 (by simp; omega) (by simp [go_sem, xx0, xx1, xx2, xx3]) (by simp [go_sem, xf0]) (by simp [go_sem, xx0, xx1, xx2, xx3]) (by simp [go_sem, xf1]) (by simp [go_sem, xx0, xx1, xx2, xx3]) (by simp [go_sem, xf2]) (by simp [go_sem, xx0, xx1, xx2, xx3]) (by simp [go_sem, xf3])⟩⟩
          · intro L ρ u wx hall hu hW
            obtain ⟨v', hv1, hsv, hbv⟩ := hW.t1 (hall 9 (by show 9 < 10; omega))
            have HDF := Lib.hid (HDA.out.put2 (y' := ⟨a1, v', v, m⟩) hp hW.kp hsv hbv (by have h := HDA.out.sm; exact ⟨h.con, (by dsimp only; omega), h.sent, h.am⟩))
            clear hu hall hW hv1 hsv hbv HDA
            have hb0 := HDF.out.bx
            have hy9 := hb0.lt; have cw9_0 := hb0.cell 0 rfl; have fw9_0 := hb0.frozen 0 rfl; have cw9_1 := hb0.cell 1 rfl; have fw9_1 := hb0.frozen 1 rfl; have cw9_2 := hb0.cell 2 rfl; have fw9_2 := hb0.frozen 2 rfl; have cw9_3 := hb0.cell 3 rfl; have fw9_3 := hb0.frozen 3 rfl
            clear hb0
            have hb0 := HDF.out.b6
            have hy6 := hb0.lt; have cw6_0 := hb0.cell 0 rfl; have fw6_0 := hb0.frozen 0 rfl; have cw6_1 := hb0.cell 1 rfl; have fw6_1 := hb0.frozen 1 rfl; have cw6_2 := hb0.cell 2 rfl; have fw6_2 := hb0.frozen 2 rfl; have cw6_3 := hb0.cell 3 rfl; have fw6_3 := hb0.frozen 3 rfl
            clear hb0
            go_wp2
            refine bodyPost_ret (by simp [results, Try.results64, go_sem, cw6_0, cw6_1, cw6_2, cw6_3]; try rfl) rfl ?_
            have hsXF := HDF.out.sX
            exact ⟨_, rfl, HDF.out.sm, HDF.out.src.high (B := p + 1) (by (repeat' (first | (with_reducible exact Below.refl _ _) | (with_reducible assumption) | (with_reducible refine Below.alloc ?_ ?_ _) | (with_reducible refine Below.drew ?_) | (with_reducible refine Below.drewN' ?_ _) | (with_reducible refine Below.setCell ?_ ?_ _) | (refine Below.via ?_ (by with_reducible assumption) ?_) | (with_reducible refine Below.via ?_ (Wd.h _) ?_) | go_size))) (by omega), by have h1 := HDF.out.kp; (repeat' (first | (with_reducible exact Keep.refl _ _) | (with_reducible assumption) | (with_reducible refine Keep.alloc ?_ _) | (with_reducible refine Keep.drew ?_) | (with_reducible refine Keep.drewN ?_ _) | (refine Keep.trans ?_ (by with_reducible assumption)) | (refine Keep.via ?_ (by with_reducible assumption)) | (with_reducible refine Keep.new ?_ ?_ _) | go_size))⟩
        have n1 : (z == 1) = false := by simpa using e1
        by_cases e2 : z = 2
        · subst e2
          go_wp2_with fail
          refine wp_region_tb (R := Zr) [some 80, some 81, some 82, some 83, some 84, some 85, some 86, some 87, some 88, some 89, some 90, some 91, none] _ (by intro u; simp only [frs, Act.put, List.setIfInBounds_toArray, List.set_cons_zero, List.set_cons_succ, Nat.reduceAdd]; exact rfl) (fun ρ j => ([.pointer (some ⟨g, 1, none⟩), .int .i64 a2, .int .i64 (a2 - 1), .pointer (some ⟨g, 1, none⟩), .int .i64 a2, .int .i64 (a2 - 2), .slice (some ⟨ρ.b 6, 0, none⟩) 4 4, .pointer (some ⟨p, 0, none⟩), .int .i64 (ρ.r 8), .pointer (some ⟨ρ.b 6, (ρ.r 8).toNat, none⟩), .int .i64 ((ρ.c 6).getD (ρ.r 8).toNat 0), .pointer (some ⟨g, 2, none⟩), undef] : List Value).getD j undef) (WZ p (fun k => k = g) [(8, 4)] [(6, 4, -2700000, 2700000)] 12 (fun wt => Bx wt g (Nom.cells ⟨a1, a2, v, m⟩) ∧ Bx wt X x.cells) (fun _ wt => ∃ v' : Int, (-3000000 ≤ v' ∧ v' ≤ 3000000) ∧ Src wt p ∧ Bx wt g (Nom.cells ⟨a1, a2, v', m⟩)) w7) (by kernel_rfl) (by kernel_rfl) Zr.zero (WZ.start (Keep.of_below _ (Below.drew (Below.refl _ _))) (HDA.out.src.below (Below.drew (Below.refl _ _))) ⟨HDA.out.bx.below (Below.drew (Below.refl w7.heap.size _)) HDA.out.bx.lt, HDA.out.bc.below (Below.drew (Below.refl w7.heap.size _)) HDA.out.bc.lt⟩) ?_ ?_
          · intro ii hii L ρ u wx hl hp hc hu hn hW
            have hii : ii < 13 := hii
            have HNo := Lib.hid hn
            clear hn
            have hii : ii = 0 ∨ ii = 1 ∨ ii = 2 ∨ ii = 3 ∨ ii = 4 ∨ ii = 5 ∨ ii = 6 ∨ ii = 7 ∨ ii = 8 ∨ ii = 9 ∨ ii = 10 ∨ ii = 11 ∨ ii = 12 := by omega
            rcases hii with rfl | rfl | rfl | rfl | rfl | rfl | rfl | rfl | rfl | rfl | rfl | rfl | rfl
            · refine wpOp_go (E := True) rfl rfl (fun K' hK => ?_)
              go_simp
              refine hK.out _ _ ⟨ρ, (by simp only [put]; rfl), fun _ _ => rfl, hW.pure rfl rfl (by omega)⟩
            · have e0 : u 0 = .pointer (some ⟨g, 1, none⟩) := hu 0 (all_of hp (by kernel_rfl))
              have xx1 := (hW.t0 (no_later (i := 10) hc (no_later (i := 9) hc (no_later (i := 6) hc (no_later (i := 2) hc (no_later hc hl (by kernel_rfl)) (by kernel_rfl)) (by kernel_rfl)) (by kernel_rfl)) (by kernel_rfl))).1.cell 1 rfl
              refine wpOp_go (E := True) rfl rfl (fun K' hK => ?_)
              go_simp
              refine hK.out _ _ ⟨ρ, (by simp only [put, e0]; rfl), fun _ _ => rfl, hW.pure rfl rfl (by omega)⟩
            · have e1 : u 1 = .int .i64 a2 := hu 1 (all_of hp (by kernel_rfl))
              have hwr2 := IntWalk.i64_in (a2 - 1) ⟨by omega, by omega⟩
              refine wpOp_go (E := True) rfl rfl (fun K' hK => ?_)
              go_simp
              refine hK.out _ _ ⟨ρ, (by simp only [put, e1, hwr2]; rfl), fun _ _ => rfl, hW.pure rfl rfl (by omega)⟩
            · refine wpOp_go (E := True) rfl rfl (fun K' hK => ?_)
              go_simp
              refine hK.out _ _ ⟨ρ, (by simp only [put]; rfl), fun _ _ => rfl, hW.pure rfl rfl (by omega)⟩
            · have e3 : u 3 = .pointer (some ⟨g, 1, none⟩) := hu 3 (all_of hp (by kernel_rfl))
              have xx1 := (hW.t0 (no_later (i := 10) hc (no_later (i := 9) hc (no_later (i := 6) hc (no_later (i := 5) hc (no_later hc hl (by kernel_rfl)) (by kernel_rfl)) (by kernel_rfl)) (by kernel_rfl)) (by kernel_rfl))).1.cell 1 rfl
              refine wpOp_go (E := True) rfl rfl (fun K' hK => ?_)
              go_simp
              refine hK.out _ _ ⟨ρ, (by simp only [put, e3]; rfl), fun _ _ => rfl, hW.pure rfl rfl (by omega)⟩
            · have e4 : u 4 = .int .i64 a2 := hu 4 (all_of hp (by kernel_rfl))
              have hwr5 := IntWalk.i64_in (a2 - 2) ⟨by omega, by omega⟩
              refine wpOp_go (E := True) rfl rfl (fun K' hK => ?_)
              go_simp
              refine hK.out _ _ ⟨ρ, (by simp only [put, e4, hwr5]; rfl), fun _ _ => rfl, hW.pure rfl rfl (by omega)⟩
            · have e2 : u 2 = .int .i64 (a2 - 1) := hu 2 (all_of hp (by kernel_rfl))
              have e5 : u 5 = .int .i64 (a2 - 2) := hu 5 (all_of hp (by kernel_rfl))
              refine wpOp_go (E := True) rfl rfl (fun K' hK => ?_)
              go_simp
              generalize hW5 : World.alloc wx _ = w5
              have hb5 : Below wx.heap.size wx w5 := by rw [← hW5]; (repeat' (first | (with_reducible exact Below.refl _ _) | (with_reducible assumption) | (with_reducible refine Below.alloc ?_ ?_ _) | (with_reducible refine Below.drew ?_) | (with_reducible refine Below.drewN' ?_ _) | (with_reducible refine Below.setCell ?_ ?_ _) | (refine Below.via ?_ (by with_reducible assumption) ?_) | (with_reducible refine Below.via ?_ (Wd.h _) ?_) | go_size))
              have hx5 : Bx w5 wx.heap.size (([a2 - 1, a2 - 2, -48, -49] : List Int).map iV) := by rw [← hW5]; exact bx4 (by simp) (by simp) (by simp) (by simp) (by simp) (by simp) (by simp) (by simp) (by simp)
              clear hW5
              refine hK.out _ _ ⟨ρ.made 6 wx.heap.size [a2 - 1, a2 - 2, -48, -49], (by simp only [put, e2, e5]; rfl), fun j hj => by
                  have n9 : L 9 = false := no_later hc hl (by kernel_rfl)
                  have n10 : L 10 = false := no_later hc n9 (by kernel_rfl)
                  have n12 : L 12 = false := no_later hc n10 (by kernel_rfl)
                  match j, hj with
                  | 0, _ => rfl
                  | 1, _ => rfl
                  | 2, _ => rfl
                  | 3, _ => rfl
                  | 4, _ => rfl
                  | 5, _ => rfl
                  | 6, hj => rw [hl] at hj; cases hj
                  | 7, _ => rfl
                  | 8, _ => rfl
                  | 9, hj => rw [n9] at hj; cases hj
                  | 10, hj => rw [n10] at hj; cases hj
                  | 11, _ => rfl
                  | 12, hj => rw [n12] at hj; cases hj
                  | _ + 13, _ => rfl, hW.made rfl (by omega) hb5 (fun ⟨h1, h2⟩ => ⟨h1.below hb5 h1.lt, h2.below hb5 h2.lt⟩) (fun ⟨v, h1, h3, h4⟩ => ⟨v, h1, h3.below hb5, h4.below hb5 h4.lt⟩) hx5 (by intro k lo hi hm; simp at hm; obtain ⟨rfl, rfl, rfl⟩ := hm; refine ⟨rfl, fun x hx => ?_⟩; simp at hx; omega)⟩
            · refine wpOp_go (E := True) rfl rfl (fun K' hK => ?_)
              go_simp
              refine hK.out _ _ ⟨ρ, (by simp only [put]; rfl), fun _ _ => rfl, hW.pure rfl rfl (by omega)⟩
            · have e7 : u 7 = .pointer (some ⟨p, 0, none⟩) := hu 7 (all_of hp (by kernel_rfl))
              have nks : L 12 = false := no_later hc hl (by kernel_rfl)
              refine wpOp_go (E := True) rfl rfl (fun K' hK => ?_)
              go_simp
              go_at_call 49
              refine (spec_l01Next _ _ _ (hW.sr nks) (by omega)).mono ?_
              rintro e' w5 ⟨r, rfl, ra, _, rb, hs5, hk5⟩
              have rc := rb (by omega)
              refine hK.out _ _ ⟨ρ.drawn 8 r, (by simp only [put, e7]; rfl), fun j hj => by
                  have n9 : L 9 = false := no_later hc hl (by kernel_rfl)
                  have n10 : L 10 = false := no_later hc n9 (by kernel_rfl)
                  have n12 : L 12 = false := no_later hc n10 (by kernel_rfl)
                  match j, hj with
                  | 0, _ => rfl
                  | 1, _ => rfl
                  | 2, _ => rfl
                  | 3, _ => rfl
                  | 4, _ => rfl
                  | 5, _ => rfl
                  | 6, _ => rfl
                  | 7, _ => rfl
                  | 8, hj => rw [hl] at hj; cases hj
                  | 9, hj => rw [n9] at hj; cases hj
                  | 10, hj => rw [n10] at hj; cases hj
                  | 11, _ => rfl
                  | 12, hj => rw [n12] at hj; cases hj
                  | _ + 13, _ => rfl, hW.call rfl (by omega) nks (by omega) hk5 hs5 (fun ⟨h1, h2⟩ => ⟨h1.keep hk5 (by omega), h2.keep hk5 (by omega)⟩) (by intro n hn; simp at hn; omega)⟩
            · have e6 : u 6 = .slice (some ⟨ρ.b 6, 0, none⟩) 4 4 := hu 6 (all_of hp (by kernel_rfl))
              have e8 : u 8 = .int .i64 (ρ.r 8) := hu 8 (all_of hp (by kernel_rfl))
              obtain ⟨ra8, rb8⟩ := hW.dr 8 (4) (by simp) (all_of hp (by kernel_rfl))
              obtain ⟨pk1, -, -, -, -⟩ := hW.pick (i := 6) (j := 8) (k := 4) (lo := -2700000) (hi := 2700000) (n := 4) (by simp) (by simp) (by omega) (all_of hp (by kernel_rfl)) (all_of hp (by kernel_rfl))
              refine wpOp_go (E := True) rfl rfl (fun K' hK => ?_)
              go_simp
              refine hK.out _ _ ⟨ρ, (by simp only [put, e6, e8]; rfl), fun _ _ => rfl, hW.pure rfl rfl (by omega)⟩
            · have e9 : u 9 = .pointer (some ⟨ρ.b 6, (ρ.r 8).toNat, none⟩) := hu 9 (all_of hp (by kernel_rfl))
              obtain ⟨ra8, rb8⟩ := hW.dr 8 (4) (by simp) (all_of (hc 9 (all_of hp (by kernel_rfl))) (by kernel_rfl))
              obtain ⟨pk1, -, pk3, -, -⟩ := hW.pick (i := 6) (j := 8) (k := 4) (lo := -2700000) (hi := 2700000) (n := 4) (by simp) (by simp) (by omega) (all_of (hc 9 (all_of hp (by kernel_rfl))) (by kernel_rfl)) (all_of (hc 9 (all_of hp (by kernel_rfl))) (by kernel_rfl))
              have pk4 := (hW.md 6 4 (-2700000) (2700000) (by simp) (all_of (hc 9 (all_of hp (by kernel_rfl))) (by kernel_rfl))).2.cell (ρ.r 8).toNat (by rw [List.getElem?_map, pk3]; rfl)
              clear pk3
              refine wpOp_go (E := True) rfl rfl (fun K' hK => ?_)
              go_simp
              refine hK.out _ _ ⟨ρ, (by simp only [put, e9]; rfl), fun _ _ => rfl, hW.pure rfl rfl (by omega)⟩
            · refine wpOp_go (E := True) rfl rfl (fun K' hK => ?_)
              go_simp
              refine hK.out _ _ ⟨ρ, (by simp only [put]; rfl), fun _ _ => rfl, hW.pure rfl rfl (by omega)⟩
            · have e11 : u 11 = .pointer (some ⟨g, 2, none⟩) := hu 11 (all_of hp (by kernel_rfl))
              have e10 : u 10 = .int .i64 ((ρ.c 6).getD (ρ.r 8).toNat 0) := hu 10 (all_of hp (by kernel_rfl))
              obtain ⟨ra8, rb8⟩ := hW.dr 8 (4) (by simp) (all_of (hc 9 (all_of (hc 10 (all_of hp (by kernel_rfl))) (by kernel_rfl))) (by kernel_rfl))
              obtain ⟨pk1, -, -, pk4, pk5⟩ := hW.pick (i := 6) (j := 8) (k := 4) (lo := -2700000) (hi := 2700000) (n := 4) (by simp) (by simp) (by omega) (all_of (hc 9 (all_of (hc 10 (all_of hp (by kernel_rfl))) (by kernel_rfl))) (by kernel_rfl)) (all_of (hc 9 (all_of (hc 10 (all_of hp (by kernel_rfl))) (by kernel_rfl))) (by kernel_rfl))
              have hb0 := (hW.t0 hl).1
              have hyX := hb0.lt
              have xx0 := hb0.cell 0 rfl
              have xx1 := hb0.cell 1 rfl
              have xx2 := hb0.cell 2 rfl
              have xx3 := hb0.cell 3 rfl
              have xf0 := hb0.frozen 0 rfl
              have xf1 := hb0.frozen 1 rfl
              have xf2 := hb0.frozen 2 rfl
              have xf3 := hb0.frozen 3 rfl
              clear hb0
              refine wpOp_go (E := True) rfl rfl (fun K' hK => ?_)
              go_simp
              refine hK.out _ _ ⟨ρ, (by simp only [put, e11, e10]; rfl), fun _ _ => rfl, hW.store rfl rfl (by intro k q; omega) ((((Keep.refl (· = g) _).one _)).wide fun k q => Or.inr q) ⟨(ρ.c 6).getD (ρ.r 8).toNat 0, (by omega), (hW.sr hl).high (B := p + 1) (by (repeat' (first | (with_reducible exact Below.refl _ _) | (with_reducible assumption) | (with_reducible refine Below.alloc ?_ ?_ _) | (with_reducible refine Below.drew ?_) | (with_reducible refine Below.drewN' ?_ _) | (with_reducible refine Below.setCell ?_ ?_ _) | (refine Below.via ?_ (by with_reducible assumption) ?_) | (with_reducible refine Below.via ?_ (Wd.h _) ?_) | go_size))) (by omega), bx4 (by simp; omega) (by simp [go_sem, xx0, xx1, xx2, xx3]) (by simp [go_sem, xf0]) (by simp [go_sem, xx0, xx1, xx2, xx3]) (by simp [go_sem, xf1]) (by simp [go_sem, xx0, xx1, xx2, xx3]) (by simp [go_sem, xf2]) (by simp [go_sem, xx0, xx1, xx2, xx3]) (by simp [go_sem, xf3])⟩⟩
          · intro L ρ u wx hall hu hW
            obtain ⟨v', hv1, hsv, hbv⟩ := hW.t1 (hall 12 (by show 12 < 13; omega))
            have HDF := Lib.hid (HDA.out.put2 (y' := ⟨a1, a2, v', m⟩) hp hW.kp hsv hbv (by have h := HDA.out.sm; exact ⟨h.con, h.hr, (by dsimp only; omega), h.am⟩))
            clear hu hall hW hv1 hsv hbv HDA
            have hb0 := HDF.out.bx
            have hy9 := hb0.lt; have cw9_0 := hb0.cell 0 rfl; have fw9_0 := hb0.frozen 0 rfl; have cw9_1 := hb0.cell 1 rfl; have fw9_1 := hb0.frozen 1 rfl; have cw9_2 := hb0.cell 2 rfl; have fw9_2 := hb0.frozen 2 rfl; have cw9_3 := hb0.cell 3 rfl; have fw9_3 := hb0.frozen 3 rfl
            clear hb0
            have hb0 := HDF.out.b6
            have hy6 := hb0.lt; have cw6_0 := hb0.cell 0 rfl; have fw6_0 := hb0.frozen 0 rfl; have cw6_1 := hb0.cell 1 rfl; have fw6_1 := hb0.frozen 1 rfl; have cw6_2 := hb0.cell 2 rfl; have fw6_2 := hb0.frozen 2 rfl; have cw6_3 := hb0.cell 3 rfl; have fw6_3 := hb0.frozen 3 rfl
            clear hb0
            go_wp2
            refine bodyPost_ret (by simp [results, Try.results64, go_sem, cw6_0, cw6_1, cw6_2, cw6_3]; try rfl) rfl ?_
            have hsXF := HDF.out.sX
            exact ⟨_, rfl, HDF.out.sm, HDF.out.src.high (B := p + 1) (by (repeat' (first | (with_reducible exact Below.refl _ _) | (with_reducible assumption) | (with_reducible refine Below.alloc ?_ ?_ _) | (with_reducible refine Below.drew ?_) | (with_reducible refine Below.drewN' ?_ _) | (with_reducible refine Below.setCell ?_ ?_ _) | (refine Below.via ?_ (by with_reducible assumption) ?_) | (with_reducible refine Below.via ?_ (Wd.h _) ?_) | go_size))) (by omega), by have h1 := HDF.out.kp; (repeat' (first | (with_reducible exact Keep.refl _ _) | (with_reducible assumption) | (with_reducible refine Keep.alloc ?_ _) | (with_reducible refine Keep.drew ?_) | (with_reducible refine Keep.drewN ?_ _) | (refine Keep.trans ?_ (by with_reducible assumption)) | (refine Keep.via ?_ (by with_reducible assumption)) | (with_reducible refine Keep.new ?_ ?_ _) | go_size))⟩
        have n2 : (z == 2) = false := by simpa using e2
        by_cases e3 : z = 3
        · subst e3
          go_wp2_with fail
          refine wp_region_tb (R := Zr) [some 94, some 95, some 96, some 97, some 98, some 99, some 100, some 101, some 102, some 103, some 104, none] _ (by intro u; simp only [frs, Act.put, List.setIfInBounds_toArray, List.set_cons_zero, List.set_cons_succ, Nat.reduceAdd]; exact rfl) (fun ρ j => ([.pointer (some ⟨X, 3, none⟩), .int .i64 x.am, .pointer (some ⟨X, 3, none⟩), .int .i64 x.am, .int .i64 (x.am + 1), .slice (some ⟨ρ.b 5, 0, none⟩) 3 3, .pointer (some ⟨p, 0, none⟩), .int .i64 (ρ.r 7), .pointer (some ⟨ρ.b 5, (ρ.r 7).toNat, none⟩), .int .i64 ((ρ.c 5).getD (ρ.r 7).toNat 0), .pointer (some ⟨g, 3, none⟩), undef] : List Value).getD j undef) (WZ p (fun k => k = g) [(7, 3)] [(5, 3, -2200000, 2200000)] 11 (fun wt => Bx wt g (Nom.cells ⟨a1, a2, v, m⟩) ∧ Bx wt X x.cells) (fun _ wt => ∃ v' : Int, (-3000000 ≤ v' ∧ v' ≤ 3000000) ∧ Src wt p ∧ Bx wt g (Nom.cells ⟨a1, a2, v, v'⟩)) w7) (by kernel_rfl) (by kernel_rfl) Zr.zero (WZ.start (Keep.of_below _ (Below.drew (Below.refl _ _))) (HDA.out.src.below (Below.drew (Below.refl _ _))) ⟨HDA.out.bx.below (Below.drew (Below.refl w7.heap.size _)) HDA.out.bx.lt, HDA.out.bc.below (Below.drew (Below.refl w7.heap.size _)) HDA.out.bc.lt⟩) ?_ ?_
          · intro ii hii L ρ u wx hl hp hc hu hn hW
            have hii : ii < 12 := hii
            have HNo := Lib.hid hn
            clear hn
            have hii : ii = 0 ∨ ii = 1 ∨ ii = 2 ∨ ii = 3 ∨ ii = 4 ∨ ii = 5 ∨ ii = 6 ∨ ii = 7 ∨ ii = 8 ∨ ii = 9 ∨ ii = 10 ∨ ii = 11 := by omega
            rcases hii with rfl | rfl | rfl | rfl | rfl | rfl | rfl | rfl | rfl | rfl | rfl | rfl
            · refine wpOp_go (E := True) rfl rfl (fun K' hK => ?_)
              go_simp
              refine hK.out _ _ ⟨ρ, (by simp only [put]; rfl), fun _ _ => rfl, hW.pure rfl rfl (by omega)⟩
            · have e0 : u 0 = .pointer (some ⟨X, 3, none⟩) := hu 0 (all_of hp (by kernel_rfl))
              have xx3 := (hW.t0 (no_later (i := 9) hc (no_later (i := 8) hc (no_later (i := 5) hc (no_later hc hl (by kernel_rfl)) (by kernel_rfl)) (by kernel_rfl)) (by kernel_rfl))).2.cell 3 rfl
              refine wpOp_go (E := True) rfl rfl (fun K' hK => ?_)
              go_simp
              refine hK.out _ _ ⟨ρ, (by simp only [put, e0]; rfl), fun _ _ => rfl, hW.pure rfl rfl (by omega)⟩
            · refine wpOp_go (E := True) rfl rfl (fun K' hK => ?_)
              go_simp
              refine hK.out _ _ ⟨ρ, (by simp only [put]; rfl), fun _ _ => rfl, hW.pure rfl rfl (by omega)⟩
            · have e2 : u 2 = .pointer (some ⟨X, 3, none⟩) := hu 2 (all_of hp (by kernel_rfl))
              have xx3 := (hW.t0 (no_later (i := 9) hc (no_later (i := 8) hc (no_later (i := 5) hc (no_later (i := 4) hc (no_later hc hl (by kernel_rfl)) (by kernel_rfl)) (by kernel_rfl)) (by kernel_rfl)) (by kernel_rfl))).2.cell 3 rfl
              refine wpOp_go (E := True) rfl rfl (fun K' hK => ?_)
              go_simp
              refine hK.out _ _ ⟨ρ, (by simp only [put, e2]; rfl), fun _ _ => rfl, hW.pure rfl rfl (by omega)⟩
            · have e3 : u 3 = .int .i64 x.am := hu 3 (all_of hp (by kernel_rfl))
              have hwr4 := IntWalk.i64_in (x.am + 1) ⟨by omega, by omega⟩
              refine wpOp_go (E := True) rfl rfl (fun K' hK => ?_)
              go_simp
              refine hK.out _ _ ⟨ρ, (by simp only [put, e3, hwr4]; rfl), fun _ _ => rfl, hW.pure rfl rfl (by omega)⟩
            · have e1 : u 1 = .int .i64 x.am := hu 1 (all_of hp (by kernel_rfl))
              have e4 : u 4 = .int .i64 (x.am + 1) := hu 4 (all_of hp (by kernel_rfl))
              refine wpOp_go (E := True) rfl rfl (fun K' hK => ?_)
              go_simp
              generalize hW5 : World.alloc wx _ = w5
              have hb5 : Below wx.heap.size wx w5 := by rw [← hW5]; (repeat' (first | (with_reducible exact Below.refl _ _) | (with_reducible assumption) | (with_reducible refine Below.alloc ?_ ?_ _) | (with_reducible refine Below.drew ?_) | (with_reducible refine Below.drewN' ?_ _) | (with_reducible refine Below.setCell ?_ ?_ _) | (refine Below.via ?_ (by with_reducible assumption) ?_) | (with_reducible refine Below.via ?_ (Wd.h _) ?_) | go_size))
              have hx5 : Bx w5 wx.heap.size (([-1, x.am, x.am + 1] : List Int).map iV) := by rw [← hW5]; exact bx3 (by simp) (by simp) (by simp) (by simp) (by simp) (by simp) (by simp)
              clear hW5
              refine hK.out _ _ ⟨ρ.made 5 wx.heap.size [-1, x.am, x.am + 1], (by simp only [put, e1, e4]; rfl), fun j hj => by
                  have n8 : L 8 = false := no_later hc hl (by kernel_rfl)
                  have n9 : L 9 = false := no_later hc n8 (by kernel_rfl)
                  have n11 : L 11 = false := no_later hc n9 (by kernel_rfl)
                  match j, hj with
                  | 0, _ => rfl
                  | 1, _ => rfl
                  | 2, _ => rfl
                  | 3, _ => rfl
                  | 4, _ => rfl
                  | 5, hj => rw [hl] at hj; cases hj
                  | 6, _ => rfl
                  | 7, _ => rfl
                  | 8, hj => rw [n8] at hj; cases hj
                  | 9, hj => rw [n9] at hj; cases hj
                  | 10, _ => rfl
                  | 11, hj => rw [n11] at hj; cases hj
                  | _ + 12, _ => rfl, hW.made rfl (by omega) hb5 (fun ⟨h1, h2⟩ => ⟨h1.below hb5 h1.lt, h2.below hb5 h2.lt⟩) (fun ⟨v, h1, h3, h4⟩ => ⟨v, h1, h3.below hb5, h4.below hb5 h4.lt⟩) hx5 (by intro k lo hi hm; simp at hm; obtain ⟨rfl, rfl, rfl⟩ := hm; refine ⟨rfl, fun x hx => ?_⟩; simp at hx; omega)⟩
            · refine wpOp_go (E := True) rfl rfl (fun K' hK => ?_)
              go_simp
              refine hK.out _ _ ⟨ρ, (by simp only [put]; rfl), fun _ _ => rfl, hW.pure rfl rfl (by omega)⟩
            · have e6 : u 6 = .pointer (some ⟨p, 0, none⟩) := hu 6 (all_of hp (by kernel_rfl))
              have nks : L 11 = false := no_later hc hl (by kernel_rfl)
              refine wpOp_go (E := True) rfl rfl (fun K' hK => ?_)
              go_simp
              go_at_call 49
              refine (spec_l01Next _ _ _ (hW.sr nks) (by omega)).mono ?_
              rintro e' w5 ⟨r, rfl, ra, _, rb, hs5, hk5⟩
              have rc := rb (by omega)
              refine hK.out _ _ ⟨ρ.drawn 7 r, (by simp only [put, e6]; rfl), fun j hj => by
                  have n8 : L 8 = false := no_later hc hl (by kernel_rfl)
                  have n9 : L 9 = false := no_later hc n8 (by kernel_rfl)
                  have n11 : L 11 = false := no_later hc n9 (by kernel_rfl)
                  match j, hj with
                  | 0, _ => rfl
                  | 1, _ => rfl
                  | 2, _ => rfl
                  | 3, _ => rfl
                  | 4, _ => rfl
                  | 5, _ => rfl
                  | 6, _ => rfl
                  | 7, hj => rw [hl] at hj; cases hj
                  | 8, hj => rw [n8] at hj; cases hj
                  | 9, hj => rw [n9] at hj; cases hj
                  | 10, _ => rfl
                  | 11, hj => rw [n11] at hj; cases hj
                  | _ + 12, _ => rfl, hW.call rfl (by omega) nks (by omega) hk5 hs5 (fun ⟨h1, h2⟩ => ⟨h1.keep hk5 (by omega), h2.keep hk5 (by omega)⟩) (by intro n hn; simp at hn; omega)⟩
            · have e5 : u 5 = .slice (some ⟨ρ.b 5, 0, none⟩) 3 3 := hu 5 (all_of hp (by kernel_rfl))
              have e7 : u 7 = .int .i64 (ρ.r 7) := hu 7 (all_of hp (by kernel_rfl))
              obtain ⟨ra7, rb7⟩ := hW.dr 7 (3) (by simp) (all_of hp (by kernel_rfl))
              obtain ⟨pk1, -, -, -, -⟩ := hW.pick (i := 5) (j := 7) (k := 3) (lo := -2200000) (hi := 2200000) (n := 3) (by simp) (by simp) (by omega) (all_of hp (by kernel_rfl)) (all_of hp (by kernel_rfl))
              refine wpOp_go (E := True) rfl rfl (fun K' hK => ?_)
              go_simp
              refine hK.out _ _ ⟨ρ, (by simp only [put, e5, e7]; rfl), fun _ _ => rfl, hW.pure rfl rfl (by omega)⟩
            · have e8 : u 8 = .pointer (some ⟨ρ.b 5, (ρ.r 7).toNat, none⟩) := hu 8 (all_of hp (by kernel_rfl))
              obtain ⟨ra7, rb7⟩ := hW.dr 7 (3) (by simp) (all_of (hc 8 (all_of hp (by kernel_rfl))) (by kernel_rfl))
              obtain ⟨pk1, -, pk3, -, -⟩ := hW.pick (i := 5) (j := 7) (k := 3) (lo := -2200000) (hi := 2200000) (n := 3) (by simp) (by simp) (by omega) (all_of (hc 8 (all_of hp (by kernel_rfl))) (by kernel_rfl)) (all_of (hc 8 (all_of hp (by kernel_rfl))) (by kernel_rfl))
              have pk4 := (hW.md 5 3 (-2200000) (2200000) (by simp) (all_of (hc 8 (all_of hp (by kernel_rfl))) (by kernel_rfl))).2.cell (ρ.r 7).toNat (by rw [List.getElem?_map, pk3]; rfl)
              clear pk3
              refine wpOp_go (E := True) rfl rfl (fun K' hK => ?_)
              go_simp
              refine hK.out _ _ ⟨ρ, (by simp only [put, e8]; rfl), fun _ _ => rfl, hW.pure rfl rfl (by omega)⟩
            · refine wpOp_go (E := True) rfl rfl (fun K' hK => ?_)
              go_simp
              refine hK.out _ _ ⟨ρ, (by simp only [put]; rfl), fun _ _ => rfl, hW.pure rfl rfl (by omega)⟩
            · have e10 : u 10 = .pointer (some ⟨g, 3, none⟩) := hu 10 (all_of hp (by kernel_rfl))
              have e9 : u 9 = .int .i64 ((ρ.c 5).getD (ρ.r 7).toNat 0) := hu 9 (all_of hp (by kernel_rfl))
              obtain ⟨ra7, rb7⟩ := hW.dr 7 (3) (by simp) (all_of (hc 8 (all_of (hc 9 (all_of hp (by kernel_rfl))) (by kernel_rfl))) (by kernel_rfl))
              obtain ⟨pk1, -, -, pk4, pk5⟩ := hW.pick (i := 5) (j := 7) (k := 3) (lo := -2200000) (hi := 2200000) (n := 3) (by simp) (by simp) (by omega) (all_of (hc 8 (all_of (hc 9 (all_of hp (by kernel_rfl))) (by kernel_rfl))) (by kernel_rfl)) (all_of (hc 8 (all_of (hc 9 (all_of hp (by kernel_rfl))) (by kernel_rfl))) (by kernel_rfl))
              have hb0 := (hW.t0 hl).1
              have hyX := hb0.lt
              have xx0 := hb0.cell 0 rfl
              have xx1 := hb0.cell 1 rfl
              have xx2 := hb0.cell 2 rfl
              have xx3 := hb0.cell 3 rfl
              have xf0 := hb0.frozen 0 rfl
              have xf1 := hb0.frozen 1 rfl
              have xf2 := hb0.frozen 2 rfl
              have xf3 := hb0.frozen 3 rfl
              clear hb0
              refine wpOp_go (E := True) rfl rfl (fun K' hK => ?_)
              go_simp
              refine hK.out _ _ ⟨ρ, (by simp only [put, e10, e9]; rfl), fun _ _ => rfl, hW.store rfl rfl (by intro k q; omega) ((((Keep.refl (· = g) _).one _)).wide fun k q => Or.inr q) ⟨(ρ.c 5).getD (ρ.r 7).toNat 0, (by omega), (hW.sr hl).high (B := p + 1) (by (repeat' (first | (with_reducible exact Below.refl _ _) | (with_reducible assumption) | (with_reducible refine Below.alloc ?_ ?_ _) | (with_reducible refine Below.drew ?_) | (with_reducible refine Below.drewN' ?_ _) | (with_reducible refine Below.setCell ?_ ?_ _) | (refine Below.via ?_ (by with_reducible assumption) ?_) | (with_reducible refine Below.via ?_ (Wd.h _) ?_) | go_size))) (by omega), bx4 (by simp; omega) (by simp [go_sem, xx0, xx1, xx2, xx3]) (by simp [go_sem, xf0]) (by simp [go_sem, xx0, xx1, xx2, xx3]) (by simp [go_sem, xf1]) (by simp [go_sem, xx0, xx1, xx2, xx3]) (by simp [go_sem, xf2]) (by simp [go_sem, xx0, xx1, xx2, xx3]) (by simp [go_sem, xf3])⟩⟩
          · intro L ρ u wx hall hu hW
            obtain ⟨v', hv1, hsv, hbv⟩ := hW.t1 (hall 11 (by show 11 < 12; omega))
            have HDF := Lib.hid (HDA.out.put2 (y' := ⟨a1, a2, v, v'⟩) hp hW.kp hsv hbv (by have h := HDA.out.sm; exact ⟨h.con, h.hr, h.sent, (by dsimp only; omega)⟩))
            clear hu hall hW hv1 hsv hbv HDA
            have hb0 := HDF.out.bx
            have hy9 := hb0.lt; have cw9_0 := hb0.cell 0 rfl; have fw9_0 := hb0.frozen 0 rfl; have cw9_1 := hb0.cell 1 rfl; have fw9_1 := hb0.frozen 1 rfl; have cw9_2 := hb0.cell 2 rfl; have fw9_2 := hb0.frozen 2 rfl; have cw9_3 := hb0.cell 3 rfl; have fw9_3 := hb0.frozen 3 rfl
            clear hb0
            have hb0 := HDF.out.b6
            have hy6 := hb0.lt; have cw6_0 := hb0.cell 0 rfl; have fw6_0 := hb0.frozen 0 rfl; have cw6_1 := hb0.cell 1 rfl; have fw6_1 := hb0.frozen 1 rfl; have cw6_2 := hb0.cell 2 rfl; have fw6_2 := hb0.frozen 2 rfl; have cw6_3 := hb0.cell 3 rfl; have fw6_3 := hb0.frozen 3 rfl
            clear hb0
            go_wp2
            refine bodyPost_ret (by simp [results, Try.results64, go_sem, cw6_0, cw6_1, cw6_2, cw6_3]; try rfl) rfl ?_
            have hsXF := HDF.out.sX
            exact ⟨_, rfl, HDF.out.sm, HDF.out.src.high (B := p + 1) (by (repeat' (first | (with_reducible exact Below.refl _ _) | (with_reducible assumption) | (with_reducible refine Below.alloc ?_ ?_ _) | (with_reducible refine Below.drew ?_) | (with_reducible refine Below.drewN' ?_ _) | (with_reducible refine Below.setCell ?_ ?_ _) | (refine Below.via ?_ (by with_reducible assumption) ?_) | (with_reducible refine Below.via ?_ (Wd.h _) ?_) | go_size))) (by omega), by have h1 := HDF.out.kp; (repeat' (first | (with_reducible exact Keep.refl _ _) | (with_reducible assumption) | (with_reducible refine Keep.alloc ?_ _) | (with_reducible refine Keep.drew ?_) | (with_reducible refine Keep.drewN ?_ _) | (refine Keep.trans ?_ (by with_reducible assumption)) | (refine Keep.via ?_ (by with_reducible assumption)) | (with_reducible refine Keep.new ?_ ?_ _) | go_size))⟩
        have n3 : (z == 3) = false := by simpa using e3
        clear e0 e1 e2 e3
        have HDF := HDA
        clear HDA
        have hb0 := HDF.out.bx
        have hy9 := hb0.lt; have cw9_0 := hb0.cell 0 rfl; have fw9_0 := hb0.frozen 0 rfl; have cw9_1 := hb0.cell 1 rfl; have fw9_1 := hb0.frozen 1 rfl; have cw9_2 := hb0.cell 2 rfl; have fw9_2 := hb0.frozen 2 rfl; have cw9_3 := hb0.cell 3 rfl; have fw9_3 := hb0.frozen 3 rfl
        clear hb0
        have hb0 := HDF.out.b6
        have hy6 := hb0.lt; have cw6_0 := hb0.cell 0 rfl; have fw6_0 := hb0.frozen 0 rfl; have cw6_1 := hb0.cell 1 rfl; have fw6_1 := hb0.frozen 1 rfl; have cw6_2 := hb0.cell 2 rfl; have fw6_2 := hb0.frozen 2 rfl; have cw6_3 := hb0.cell 3 rfl; have fw6_3 := hb0.frozen 3 rfl
        clear hb0
        go_wp2
        refine bodyPost_ret (by simp [results, Try.results64, go_sem, cw6_0, cw6_1, cw6_2, cw6_3]; try rfl) rfl ?_
        have hsXF := HDF.out.sX
        exact ⟨_, rfl, HDF.out.sm, HDF.out.src.high (B := p + 1) (by (repeat' (first | (with_reducible exact Below.refl _ _) | (with_reducible assumption) | (with_reducible refine Below.alloc ?_ ?_ _) | (with_reducible refine Below.drew ?_) | (with_reducible refine Below.drewN' ?_ _) | (with_reducible refine Below.setCell ?_ ?_ _) | (refine Below.via ?_ (by with_reducible assumption) ?_) | (with_reducible refine Below.via ?_ (Wd.h _) ?_) | go_size))) (by omega), by have h1 := HDF.out.kp; (repeat' (first | (with_reducible exact Keep.refl _ _) | (with_reducible assumption) | (with_reducible refine Keep.alloc ?_ _) | (with_reducible refine Keep.drew ?_) | (with_reducible refine Keep.drewN ?_ _) | (refine Keep.trans ?_ (by with_reducible assumption)) | (refine Keep.via ?_ (by with_reducible assumption)) | (with_reducible refine Keep.new ?_ ?_ _) | go_size))⟩
end Go.Proofs.Ytlbidcblpmdgaaa
