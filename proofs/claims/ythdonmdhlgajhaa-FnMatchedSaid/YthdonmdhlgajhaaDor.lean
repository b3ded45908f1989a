/- Drawn orders. -/
import Derived.Test.YthdonmdhlgajhaaDg
import Derived.Test.YthdonmdhlgajhaaLOrder
namespace Go.Proofs.Ythdonmdhlgajhaa
set_option linter.unusedVariables false
set_option linter.unusedSimpArgs false
open Go.RowKit
theorem info_OrdX : (Try.prog.info? 41).map (fun i => (i.zero, i.size, i.bytes)) = some (some (.agg #[.int .i64 0, .int .i64 0, .int .i64 0, .int .i64 0]), 4, 32) := by kernel_rfl
theorem four {l : List Int} (h : l.length = 4) : ∃ a b c d, l = [a, b, c, d] := by
  match l, h with
  | [a, b, c, d], _ => exact ⟨a, b, c, d, rfl⟩
theorem cell_newK (w : World) (cs : Array Value) (t : TypeId) (n k : Nat) (v : Value) (h : n = w.heap.size) (hv : cs[k]? = some v) : (w.alloc (.cells cs t)).cell? ⟨n, k, none⟩ = some v := by subst h; simpa using hv
theorem pickA2 (a b : Int) : ∀ k : Nat, k < 2 → (#[Value.int .i64 a, Value.int .i64 b] : Array Value)[k]? = some (.int .i64 (pick [a, b] k))
  | 0, _ => rfl
  | 1, _ => rfl
  | k + 2, h => by omega
theorem litA2 (w : World) (t : TypeId) (a b : Int) (k : Nat) (h : k < 2) : (w.alloc (.cells #[Value.int .i64 a, Value.int .i64 b] t)).cell? ⟨w.heap.size, k, none⟩ = some (.int .i64 (pick [a, b] k)) := by
  refine Eq.trans ?_ (pickA2 a b k h)
  simp
theorem made4 (n : Nat) : (madeCells #[Value.int .i64 0, .int .i64 0, .int .i64 0, .int .i64 0] (n * 4)).toList = (List.replicate n (⟨0, 0, 0, 0⟩ : Ord)).flatMap Ord.cells := by
  have h1 : (madeCells #[Value.int .i64 0, .int .i64 0, .int .i64 0, .int .i64 0] (n * 4)).toList = List.replicate (n * 4) (Value.int .i64 0) := by
    rw [List.eq_replicate_iff]
    refine ⟨by simp [madeCells], fun b hb => ?_⟩
    simp [madeCells] at hb
    obtain ⟨j, _, rfl⟩ := hb
    have : j % 4 = 0 ∨ j % 4 = 1 ∨ j % 4 = 2 ∨ j % 4 = 3 := by omega
    rcases this with h | h | h | h <;> rw [h] <;> rfl
  have h2 : (List.replicate n (⟨0, 0, 0, 0⟩ : Ord)).flatMap Ord.cells = List.replicate (n * 4) (Value.int .i64 0) := by
    rw [List.eq_replicate_iff]
    refine ⟨by rw [flat_len Ord.len]; simp, fun b hb => ?_⟩
    obtain ⟨x, hx, hb⟩ := List.mem_flatMap.1 hb
    rw [List.eq_of_mem_replicate hx] at hb
    simpa [Ord.cells] using hb
  rw [h1, h2]
def OrdsF (xs : List Value) (n : Nat) : Prop := ∃ l : List Ord, xs = l.flatMap Ord.cells ∧ n = l.length
set_option maxRecDepth 100000 in
set_option maxHeartbeats 8000000 in
theorem spec_l22Draw (p : Nat) (w : World) (h : Src w p) :
    Calls Try.prog 19 #[.pointer (some ⟨p, 0, none⟩)] w (DrewG w p OrdsF) := by
  have hp := h.lt
  have HS := Lib.hid h
  clear h
  go_enter Try.func19, Try.ntmps19
  go_wp2_with fail
  have HB0 := Lib.hid (show Bx (w.alloc (.cells #[.slice none 0 0, .slice none 0 0] 27)) w.heap.size [.slice none 0 0, .slice none 0 0] from (bx2 (by first | exact hy0 | go_size) (by first | (with_reducible exact cw0_0) | go_cell_look | (simp [go_sem, hy0, cw0_0, fw0_0, cw0_1, fw0_1]; done) | (simp [go_sem]; done)) (by first | (with_reducible exact fw0_0) | (simp only [World.frozen?_setCell, fw0_0]; done) | (simp [go_sem, hy0, cw0_0, fw0_0, cw0_1, fw0_1]; done) | (simp [go_sem]; done)) (by first | (with_reducible exact cw0_1) | go_cell_look | (simp [go_sem, hy0, cw0_0, fw0_0, cw0_1, fw0_1]; done) | (simp [go_sem]; done)) (by first | (with_reducible exact fw0_1) | (simp only [World.frozen?_setCell, fw0_1]; done) | (simp [go_sem, hy0, cw0_0, fw0_0, cw0_1, fw0_1]; done) | (simp [go_sem]; done))))
  refine (spec_l05DrawChord p _ (HS.out.below (by (repeat' (first | (with_reducible exact Below.refl _ _) | (with_reducible assumption) | (with_reducible refine Below.alloc ?_ ?_ _) | (with_reducible refine Below.drew ?_) | (with_reducible refine Below.drewN' ?_ _) | (with_reducible refine Below.setCell ?_ ?_ _) | (refine Below.via ?_ (by with_reducible assumption) ?_) | (with_reducible refine Below.via ?_ (Wd.h _) ?_) | go_size))))).mono ?_
  rintro e w1 ⟨A, Bq, c, d, N, x0, rfl, hD⟩
  have hz1 := hD.kp.size
  simp at hz1
  have hnc := hD.nc
  have hnl := hD.nl
  have hb2 : Below w1.heap.size w1 ((w1.alloc (.cells #[.slice A N.nodes.length c, .slice Bq N.pipes.length d] 27)).alloc (.cells #[] 41)) := by (repeat' (first | (with_reducible exact Below.refl _ _) | (with_reducible assumption) | (with_reducible refine Below.alloc ?_ ?_ _) | (with_reducible refine Below.drew ?_) | (with_reducible refine Below.drewN' ?_ _) | (with_reducible refine Below.setCell ?_ ?_ _) | (refine Below.via ?_ (by with_reducible assumption) ?_) | (with_reducible refine Below.via ?_ (Wd.h _) ?_) | go_size))
  have H0 := Lib.hid (show DG w p w1.heap.size (w1.heap.size + 1) A Bq c d N 41 4 (.slice (some ⟨w1.heap.size + 1, 0, none⟩) 0 0) 0 [] ((w1.alloc (.cells #[.slice A N.nodes.length c, .slice Bq N.pipes.length d] 27)).alloc (.cells #[] 41)) from
    ⟨by simpa using Own.lit0 (w1.alloc (.cells #[.slice A N.nodes.length c, .slice Bq N.pipes.length d] 27)) (w1.heap.size + 1) 41 4 (by simp), hD.net.below hb2,
     fun b off e => by have := World.ownsRow.lt hD.o1 b (by rw [e]; rfl); simp at this; omega, fun b off e => by have := World.ownsRow.lt hD.o2 b (by rw [e]; rfl); simp at this; omega,
     hD.src.below hb2, (show Keep (· = p) w w1 by have h1 := hD.kp; (repeat' (first | (with_reducible exact Keep.refl _ _) | (with_reducible assumption) | (with_reducible refine Keep.alloc ?_ _) | (with_reducible refine Keep.drew ?_) | (with_reducible refine Keep.drewN ?_ _) | (refine Keep.trans ?_ (by with_reducible assumption)) | (refine Keep.via ?_ (by with_reducible assumption)) | (with_reducible refine Keep.new ?_ ?_ _) | go_size))).trans (Keep.of_below _ hb2), (HB0.out.keep hD.kp (by omega)).below hb2 (by have := (HB0.out.keep hD.kp (by omega)).lt; omega),
     (show Bx (w1.alloc (.cells #[.slice A N.nodes.length c, .slice Bq N.pipes.length d] 27)) w1.heap.size [.slice A N.nodes.length c, .slice Bq N.pipes.length d] from bx2 (by simp) (by simp) (by simp) (by simp) (by simp)).below (Below.alloc (Below.refl _ _) (Nat.le_refl _) _) (by simp), ⟨by omega, by omega⟩, by simp⟩)
  clear hD hb2 HB0
  go_wp2_with fail
  refine (spec_l01Next p _ _ H0.out.src (by omega)).mono ?_
  rintro e w2 ⟨r2, rfl, ra2, _, rb2, hs2, hk2⟩
  have rc2 := rb2 (by omega)
  have H2 := Lib.hid (H0.out.keep hp hk2 hs2)
  obtain ⟨q0, hq0⟩ : ∃ q0 : Nat, r2 = q0 := ⟨r2.toNat, by omega⟩
  subst hq0
  clear hs2 hk2 rb2 H0
  go_wp2_with fail
  go_loopw [6, 7, 8] (fun u t _ wv => ∃ (q : Nat) (l : List Ord), t = .int .i64 q ∧ q + l.length ≤ 10 ∧ DG w p w1.heap.size (w1.heap.size + 1) A Bq c d N 41 4 u l.length (l.flatMap Ord.cells) wv) (fun _ t _ _ => (intOf t).toNat)
  case atStart => exact ⟨q0, [], rfl, by simp; omega, H2.out⟩
  case round =>
    clear H2
    obtain ⟨q, l, rfl, hq, hI⟩ := hrel
    have HI := Lib.hid hI
    have hsz := hI.sz
    clear hI
    by_cases hq0 : q = 0
    · have g1 : ¬ (0 : Int) < q := by omega
      have hX := HI.out.sX
      go_wp2_with fail
      refine (spec_l01Next p _ _ HI.out.src (by omega)).mono ?_
      rintro e w3 ⟨z, rfl, za, _, zb, hs3, hk3⟩
      have H3 := Lib.hid (HI.out.keep hp hk3 hs3)
      clear hs3 hk3 zb HI
      by_cases e0 : z = 0
      · subst e0
        go_wp2_with fail
        refine (spec_l01Next p _ _ H3.out.src (by omega)).mono ?_
        rintro e w4 ⟨r, rfl, ra, _, rb, hs4, hk4⟩
        have rc := rb (by omega)
        have H4 := Lib.hid (H3.out.keep hp hk4 hs4)
        have hsz4 := H4.out.sz
        obtain ⟨nn, hnn⟩ : ∃ nn : Nat, 40 + r = (nn : Int) := ⟨(40 + r).toNat, by omega⟩
        have hnn2 : nn ≤ 128 := by omega
        have hmk := make_rule (P := Try.prog) info_OrdX Try.underlying28 nn (by omega) (by omega)
        have HOW := Lib.hid (show Own (w4.alloc (.cells (madeCells #[Value.int .i64 0, .int .i64 0, .int .i64 0, .int .i64 0] (nn * 4)) 41)) (w1.heap.size + 1) 41 4 (.slice (some ⟨w4.heap.size, 0, none⟩) nn nn) nn ((List.replicate nn (⟨0, 0, 0, 0⟩ : Ord)).flatMap Ord.cells) by
          have := World.ownsRow_lit (base := w1.heap.size + 1) (e := 41) (size := 4) w4 (madeCells #[Value.int .i64 0, .int .i64 0, .int .i64 0, .int .i64 0] (nn * 4)) nn hsz4 (by simp [maxLen]; omega) (by simp [madeCells])
          rw [made4] at this
          exact this)
        have HF := Lib.hid ((H4.out.below (Below.alloc (Below.refl _ _) (Nat.le_refl _) (.cells (madeCells #[Value.int .i64 0, .int .i64 0, .int .i64 0, .int .i64 0] (nn * 4)) 41))).put hp HOW.out (Below.refl _ _))
        clear hs4 hk4 rb H3 H4 HOW
        have hbX := HF.out.bX
        have hb0 := HF.out.b0
        have hy7 := hbX.lt; have cw7_0 := hbX.cell 0 rfl; have fw7_0 := hbX.frozen 0 rfl; have cw7_1 := hbX.cell 1 rfl; have fw7_1 := hbX.frozen 1 rfl
        have hy0 := hb0.lt; have cw0_0 := hb0.cell 0 rfl; have fw0_0 := hb0.frozen 0 rfl; have cw0_1 := hb0.cell 1 rfl; have fw0_1 := hb0.frozen 1 rfl
        clear hbX hb0
        go_wp2
        refine bodyPost_ret (by simp [results, Try.results19, go_sem, cw0_0, cw0_1]; try rfl) rfl ?_
        have := dg_post (f := OrdsF) hp HF.out ⟨_, rfl, by simp⟩ hnc hnn2
        simpa [netV] using this
      · have b0 : (z == 0) = false := by simpa using e0
        obtain ⟨Al, cl, rfl, -, -, -⟩ := H3.out.o.val
        have hbX := H3.out.bX
        have hb0 := H3.out.b0
        have hy7 := hbX.lt; have cw7_0 := hbX.cell 0 rfl; have fw7_0 := hbX.frozen 0 rfl; have cw7_1 := hbX.cell 1 rfl; have fw7_1 := hbX.frozen 1 rfl
        have hy0 := hb0.lt; have cw0_0 := hb0.cell 0 rfl; have fw0_0 := hb0.frozen 0 rfl; have cw0_1 := hb0.cell 1 rfl; have fw0_1 := hb0.frozen 1 rfl
        clear hbX hb0
        go_wp2
        refine bodyPost_ret (by simp [results, Try.results19, go_sem, cw0_0, cw0_1]; try rfl) rfl ?_
        have := dg_post (f := OrdsF) hp H3.out ⟨l, rfl, rfl⟩ hnc (by omega)
        simpa [netV] using this
    · have g1 : (0 : Int) < q := by omega
      have bq : decide (0 < q) = true := by simp; omega
      go_wp2_with fail
      refine wp_region_tb (R := Zr) [some 21, some 22, some 23, some 24, some 25, some 26, some 27, some 28, some 29, some 30, some 31, some 32, some 33, some 8, none] _ (by intro u; simp only [frs, Act.put, List.setIfInBounds_toArray, List.set_cons_zero, List.set_cons_succ, Nat.reduceAdd]; exact rfl) (fun ρ j => ([.pointer (some ⟨p, 0, none⟩), .int .i64 (ρ.r 1), .pointer (some ⟨p, 0, none⟩), .pointer (some ⟨w1.heap.size, 0, none⟩), .slice A N.nodes.length c, .int .i64 (N.nodes.length : Int), .int .i64 (ρ.r 6), .pointer (some ⟨p, 0, none⟩), .int .i64 (ρ.r 8), .int .i64 (ρ.r 8 - 30), .pointer (some ⟨p, 0, none⟩), .int .i64 (ρ.r 11), .agg #[.int .i64 (ρ.r 1), .int .i64 (ρ.r 6), .int .i64 (ρ.r 8 - 30), .int .i64 (ρ.r 11)], .pointer (some ⟨ρ.b 13, 0, none⟩), undef] : List Value).getD j undef) (WZ p (fun _ => False) [(1, 3), (6, 8), (8, 60), (11, 4)] [(13, 4, -1000, 1000)] 14 (fun wt => Bx wt w1.heap.size [.slice A N.nodes.length c, .slice Bq N.pipes.length d]) (fun _ wt => Src wt p) wr) (by kernel_rfl) (by kernel_rfl) Zr.zero (WZ.start (Keep.of_below _ (Below.drew (Below.refl _ _))) (HI.out.src.below (Below.drew (Below.refl _ _))) (HI.out.bX.below (Below.drew (Below.refl wr.heap.size _)) HI.out.bX.lt)) ?_ ?_
      · intro ii hii L ρ u wx hl hp hc hu hn hW
        have hii : ii < 15 := hii
        have HNo := Lib.hid hn
        clear hn
        have hii : ii = 0 ∨ ii = 1 ∨ ii = 2 ∨ ii = 3 ∨ ii = 4 ∨ ii = 5 ∨ ii = 6 ∨ ii = 7 ∨ ii = 8 ∨ ii = 9 ∨ ii = 10 ∨ ii = 11 ∨ ii = 12 ∨ ii = 13 ∨ ii = 14 := by omega
        rcases hii with rfl | rfl | rfl | rfl | rfl | rfl | rfl | rfl | rfl | rfl | rfl | rfl | rfl | rfl | rfl
        · refine wpOp_go (E := True) rfl rfl (fun K' hK => ?_)
          go_simp
          refine hK.out _ _ ⟨ρ, (by simp only [put]; rfl), fun _ _ => rfl, hW.pure rfl rfl (by omega)⟩
        · have e0 : u 0 = .pointer (some ⟨p, 0, none⟩) := hu 0 (all_of hp (by kernel_rfl))
          have nks : L 14 = false := no_later hc hl (by kernel_rfl)
          refine wpOp_go (E := True) rfl rfl (fun K' hK => ?_)
          go_simp
          go_at_call 31
          refine (spec_l01Next _ _ _ (hW.sr nks) (by omega)).mono ?_
          rintro e' w5 ⟨r, rfl, ra, _, rb, hs5, hk5⟩
          have rc := rb (by omega)
          refine hK.out _ _ ⟨ρ.drawn 1 r, (by simp only [put, e0]; rfl), fun j hj => by
              have n12 : L 12 = false := no_later hc hl (by kernel_rfl)
              have n14 : L 14 = false := no_later hc n12 (by kernel_rfl)
              match j, hj with
              | 0, _ => rfl
              | 1, hj => rw [hl] at hj; cases hj
              | 2, _ => rfl
              | 3, _ => rfl
              | 4, _ => rfl
              | 5, _ => rfl
              | 6, _ => rfl
              | 7, _ => rfl
              | 8, _ => rfl
              | 9, _ => rfl
              | 10, _ => rfl
              | 11, _ => rfl
              | 12, hj => rw [n12] at hj; cases hj
              | 13, _ => rfl
              | 14, hj => rw [n14] at hj; cases hj
              | _ + 15, _ => rfl, hW.call rfl (by omega) nks (by omega) hk5 hs5 (fun h1 => h1.keep hk5 (by omega)) (by intro n hn; simp at hn; omega)⟩
        · refine wpOp_go (E := True) rfl rfl (fun K' hK => ?_)
          go_simp
          refine hK.out _ _ ⟨ρ, (by simp only [put]; rfl), fun _ _ => rfl, hW.pure rfl rfl (by omega)⟩
        · refine wpOp_go (E := True) rfl rfl (fun K' hK => ?_)
          go_simp
          refine hK.out _ _ ⟨ρ, (by simp only [put]; rfl), fun _ _ => rfl, hW.pure rfl rfl (by omega)⟩
        · have e3 : u 3 = .pointer (some ⟨w1.heap.size, 0, none⟩) := hu 3 (all_of hp (by kernel_rfl))
          have xx0 := (hW.t0 (no_later (i := 12) hc (no_later (i := 6) hc (no_later (i := 5) hc (no_later hc hl (by kernel_rfl)) (by kernel_rfl)) (by kernel_rfl)) (by kernel_rfl))).cell 0 rfl
          refine wpOp_go (E := True) rfl rfl (fun K' hK => ?_)
          go_simp
          refine hK.out _ _ ⟨ρ, (by simp only [put, e3]; rfl), fun _ _ => rfl, hW.pure rfl rfl (by omega)⟩
        · have e4 : u 4 = .slice A N.nodes.length c := hu 4 (all_of hp (by kernel_rfl))
          refine wpOp_go (E := True) rfl rfl (fun K' hK => ?_)
          go_simp
          refine hK.out _ _ ⟨ρ, (by simp only [put, e4]; rfl), fun _ _ => rfl, hW.pure rfl rfl (by omega)⟩
        · have e2 : u 2 = .pointer (some ⟨p, 0, none⟩) := hu 2 (all_of hp (by kernel_rfl))
          have e5 : u 5 = .int .i64 (N.nodes.length : Int) := hu 5 (all_of hp (by kernel_rfl))
          have nks : L 14 = false := no_later hc hl (by kernel_rfl)
          refine wpOp_go (E := True) rfl rfl (fun K' hK => ?_)
          go_simp
          go_at_call 31
          refine (spec_l01Next _ _ _ (hW.sr nks) (by omega)).mono ?_
          rintro e' w5 ⟨r, rfl, ra, rz, rb, hs5, hk5⟩
          have rc : r < 8 := by by_cases h1 : (N.nodes.length : Int) ≤ 1; (have := rz h1; omega); (have := rb (by omega); omega)
          refine hK.out _ _ ⟨ρ.drawn 6 r, (by simp only [put, e2, e5]; rfl), fun j hj => by
              have n12 : L 12 = false := no_later hc hl (by kernel_rfl)
              have n14 : L 14 = false := no_later hc n12 (by kernel_rfl)
              match j, hj with
              | 0, _ => rfl
              | 1, _ => rfl
              | 2, _ => rfl
              | 3, _ => rfl
              | 4, _ => rfl
              | 5, _ => rfl
              | 6, hj => rw [hl] at hj; cases hj
              | 7, _ => rfl
              | 8, _ => rfl
              | 9, _ => rfl
              | 10, _ => rfl
              | 11, _ => rfl
              | 12, hj => rw [n12] at hj; cases hj
              | 13, _ => rfl
              | 14, hj => rw [n14] at hj; cases hj
              | _ + 15, _ => rfl, hW.call rfl (by omega) nks (by omega) hk5 hs5 (fun h1 => h1.keep hk5 (by omega)) (by intro n hn; simp at hn; omega)⟩
        · refine wpOp_go (E := True) rfl rfl (fun K' hK => ?_)
          go_simp
          refine hK.out _ _ ⟨ρ, (by simp only [put]; rfl), fun _ _ => rfl, hW.pure rfl rfl (by omega)⟩
        · have e7 : u 7 = .pointer (some ⟨p, 0, none⟩) := hu 7 (all_of hp (by kernel_rfl))
          have nks : L 14 = false := no_later hc hl (by kernel_rfl)
          refine wpOp_go (E := True) rfl rfl (fun K' hK => ?_)
          go_simp
          go_at_call 31
          refine (spec_l01Next _ _ _ (hW.sr nks) (by omega)).mono ?_
          rintro e' w5 ⟨r, rfl, ra, _, rb, hs5, hk5⟩
          have rc := rb (by omega)
          refine hK.out _ _ ⟨ρ.drawn 8 r, (by simp only [put, e7]; rfl), fun j hj => by
              have n9 : L 9 = false := no_later hc hl (by kernel_rfl)
              have n12 : L 12 = false := no_later hc n9 (by kernel_rfl)
              have n14 : L 14 = false := no_later hc n12 (by kernel_rfl)
              match j, hj with
              | 0, _ => rfl
              | 1, _ => rfl
              | 2, _ => rfl
              | 3, _ => rfl
              | 4, _ => rfl
              | 5, _ => rfl
              | 6, _ => rfl
              | 7, _ => rfl
              | 8, hj => rw [hl] at hj; cases hj
              | 9, hj => rw [n9] at hj; cases hj
              | 10, _ => rfl
              | 11, _ => rfl
              | 12, hj => rw [n12] at hj; cases hj
              | 13, _ => rfl
              | 14, hj => rw [n14] at hj; cases hj
              | _ + 15, _ => rfl, hW.call rfl (by omega) nks (by omega) hk5 hs5 (fun h1 => h1.keep hk5 (by omega)) (by intro n hn; simp at hn; omega)⟩
        · have e8 : u 8 = .int .i64 (ρ.r 8) := hu 8 (all_of hp (by kernel_rfl))
          obtain ⟨ra8, rb8⟩ := hW.dr 8 (60) (by simp) (all_of hp (by kernel_rfl))
          have hwr9 := IntWalk.i64_in (ρ.r 8 - 30) ⟨by omega, by omega⟩
          refine wpOp_go (E := True) rfl rfl (fun K' hK => ?_)
          go_simp
          refine hK.out _ _ ⟨ρ, (by simp only [put, e8, hwr9]; rfl), fun _ _ => rfl, hW.pure rfl rfl (by omega)⟩
        · refine wpOp_go (E := True) rfl rfl (fun K' hK => ?_)
          go_simp
          refine hK.out _ _ ⟨ρ, (by simp only [put]; rfl), fun _ _ => rfl, hW.pure rfl rfl (by omega)⟩
        · have e10 : u 10 = .pointer (some ⟨p, 0, none⟩) := hu 10 (all_of hp (by kernel_rfl))
          have nks : L 14 = false := no_later hc hl (by kernel_rfl)
          refine wpOp_go (E := True) rfl rfl (fun K' hK => ?_)
          go_simp
          go_at_call 31
          refine (spec_l01Next _ _ _ (hW.sr nks) (by omega)).mono ?_
          rintro e' w5 ⟨r, rfl, ra, _, rb, hs5, hk5⟩
          have rc := rb (by omega)
          refine hK.out _ _ ⟨ρ.drawn 11 r, (by simp only [put, e10]; rfl), fun j hj => by
              have n12 : L 12 = false := no_later hc hl (by kernel_rfl)
              have n14 : L 14 = false := no_later hc n12 (by kernel_rfl)
              match j, hj with
              | 0, _ => rfl
              | 1, _ => rfl
              | 2, _ => rfl
              | 3, _ => rfl
              | 4, _ => rfl
              | 5, _ => rfl
              | 6, _ => rfl
              | 7, _ => rfl
              | 8, _ => rfl
              | 9, _ => rfl
              | 10, _ => rfl
              | 11, hj => rw [hl] at hj; cases hj
              | 12, hj => rw [n12] at hj; cases hj
              | 13, _ => rfl
              | 14, hj => rw [n14] at hj; cases hj
              | _ + 15, _ => rfl, hW.call rfl (by omega) nks (by omega) hk5 hs5 (fun h1 => h1.keep hk5 (by omega)) (by intro n hn; simp at hn; omega)⟩
        · have e1 : u 1 = .int .i64 (ρ.r 1) := hu 1 (all_of hp (by kernel_rfl))
          have e6 : u 6 = .int .i64 (ρ.r 6) := hu 6 (all_of hp (by kernel_rfl))
          have e9 : u 9 = .int .i64 (ρ.r 8 - 30) := hu 9 (all_of hp (by kernel_rfl))
          have e11 : u 11 = .int .i64 (ρ.r 11) := hu 11 (all_of hp (by kernel_rfl))
          obtain ⟨ra1, rb1⟩ := hW.dr 1 (3) (by simp) (all_of hp (by kernel_rfl))
          obtain ⟨ra6, rb6⟩ := hW.dr 6 (8) (by simp) (all_of hp (by kernel_rfl))
          obtain ⟨ra8, rb8⟩ := hW.dr 8 (60) (by simp) (all_of (hc 9 (all_of hp (by kernel_rfl))) (by kernel_rfl))
          obtain ⟨ra11, rb11⟩ := hW.dr 11 (4) (by simp) (all_of hp (by kernel_rfl))
          refine wpOp_go (E := True) rfl rfl (fun K' hK => ?_)
          go_simp
          refine hK.out _ _ ⟨ρ, (by simp only [put, e1, e6, e9, e11]; rfl), fun _ _ => rfl, hW.pure rfl rfl (by omega)⟩
        · refine wpOp_go (E := True) rfl rfl (fun K' hK => ?_)
          go_simp
          generalize hW5 : World.alloc wx _ = w5
          have hb5 : Below wx.heap.size wx w5 := by rw [← hW5]; (repeat' (first | (with_reducible exact Below.refl _ _) | (with_reducible assumption) | (with_reducible refine Below.alloc ?_ ?_ _) | (with_reducible refine Below.drew ?_) | (with_reducible refine Below.drewN' ?_ _) | (with_reducible refine Below.setCell ?_ ?_ _) | (refine Below.via ?_ (by with_reducible assumption) ?_) | (with_reducible refine Below.via ?_ (Wd.h _) ?_) | go_size))
          have hx5 : Bx w5 wx.heap.size (([0, 0, 0, 0] : List Int).map iV) := by rw [← hW5]; exact bx4 (by simp) (by simp) (by simp) (by simp) (by simp) (by simp) (by simp) (by simp) (by simp)
          clear hW5
          refine hK.out _ _ ⟨ρ.made 13 wx.heap.size [0, 0, 0, 0], (by simp only [put]; rfl), fun j hj => by
              have n14 : L 14 = false := no_later hc hl (by kernel_rfl)
              match j, hj with
              | 0, _ => rfl
              | 1, _ => rfl
              | 2, _ => rfl
              | 3, _ => rfl
              | 4, _ => rfl
              | 5, _ => rfl
              | 6, _ => rfl
              | 7, _ => rfl
              | 8, _ => rfl
              | 9, _ => rfl
              | 10, _ => rfl
              | 11, _ => rfl
              | 12, _ => rfl
              | 13, hj => rw [hl] at hj; cases hj
              | 14, hj => rw [n14] at hj; cases hj
              | _ + 15, _ => rfl, hW.made rfl (by omega) hb5 (fun h1 => h1.below hb5 h1.lt) (fun h1 => h1.below hb5) hx5 (by intro k lo hi hm; simp at hm; obtain ⟨rfl, rfl, rfl⟩ := hm; refine ⟨rfl, fun x hx => ?_⟩; simp at hx; omega)⟩
        · have e13 : u 13 = .pointer (some ⟨ρ.b 13, 0, none⟩) := hu 13 (all_of hp (by kernel_rfl))
          have e12 : u 12 = .agg #[.int .i64 (ρ.r 1), .int .i64 (ρ.r 6), .int .i64 (ρ.r 8 - 30), .int .i64 (ρ.r 11)] := hu 12 (all_of hp (by kernel_rfl))
          obtain ⟨ra1, rb1⟩ := hW.dr 1 (3) (by simp) (all_of (hc 12 (all_of hp (by kernel_rfl))) (by kernel_rfl))
          obtain ⟨ra6, rb6⟩ := hW.dr 6 (8) (by simp) (all_of (hc 12 (all_of hp (by kernel_rfl))) (by kernel_rfl))
          obtain ⟨ra8, rb8⟩ := hW.dr 8 (60) (by simp) (all_of (hc 9 (all_of (hc 12 (all_of hp (by kernel_rfl))) (by kernel_rfl))) (by kernel_rfl))
          obtain ⟨ra11, rb11⟩ := hW.dr 11 (4) (by simp) (all_of (hc 12 (all_of hp (by kernel_rfl))) (by kernel_rfl))
          obtain ⟨hm1, hm2⟩ := hW.md 13 4 (-1000) 1000 (by simp) (all_of hp (by kernel_rfl))
          obtain ⟨a1, a2, a3, a4, hc4⟩ := four (hW.cl 13 4 (-1000) 1000 (by simp) (all_of hp (by kernel_rfl))).1
          rw [hc4] at hm2
          have hyX := hm2.lt
          have xx0 := hm2.cell 0 rfl
          have xx1 := hm2.cell 1 rfl
          have xx2 := hm2.cell 2 rfl
          have xx3 := hm2.cell 3 rfl
          have xf0 := hm2.frozen 0 rfl
          have xf1 := hm2.frozen 1 rfl
          have xf2 := hm2.frozen 2 rfl
          have xf3 := hm2.frozen 3 rfl
          clear hc4
          refine wpOp_go (E := True) rfl rfl (fun K' hK => ?_)
          go_simp
          refine hK.out _ _ ⟨ρ.made 13 (ρ.b 13) [ρ.r 1, ρ.r 6, ρ.r 8 - 30, ρ.r 11], (by simp only [put, e13, e12]; rfl), (fun j hj => by match j, hj with | 0, _ => rfl | 1, _ => rfl | 2, _ => rfl | 3, _ => rfl | 4, _ => rfl | 5, _ => rfl | 6, _ => rfl | 7, _ => rfl | 8, _ => rfl | 9, _ => rfl | 10, _ => rfl | 11, _ => rfl | 12, _ => rfl | 13, _ => rfl | 14, _ => rfl | _ + 15, _ => rfl), hW.fill _ rfl rfl hm1 (by intro i x hx; simp at hx; exact hx.1) (bx4 (by simp; omega) (by simp [go_sem, xx0, xx1, xx2, xx3]) (by simp [go_sem, xf0]) (by simp [go_sem, xx0, xx1, xx2, xx3]) (by simp [go_sem, xf1]) (by simp [go_sem, xx0, xx1, xx2, xx3]) (by simp [go_sem, xf2]) (by simp [go_sem, xx0, xx1, xx2, xx3]) (by simp [go_sem, xf3])) (((((Keep.refl _ _).one _).one _).one _).one _) (by intro k lo hi hm; simp at hm; obtain ⟨rfl, rfl, rfl⟩ := hm; refine ⟨rfl, fun x hx => ?_⟩; simp at hx; omega) ((hW.sr hl).high (B := p + 1) (by (repeat' (first | (with_reducible exact Below.refl _ _) | (with_reducible assumption) | (with_reducible refine Below.alloc ?_ ?_ _) | (with_reducible refine Below.drew ?_) | (with_reducible refine Below.drewN' ?_ _) | (with_reducible refine Below.setCell ?_ ?_ _) | (refine Below.via ?_ (by with_reducible assumption) ?_) | (with_reducible refine Below.via ?_ (Wd.h _) ?_) | go_size))) (by omega))⟩
      · intro L ρ u wx hall hu hW
        have hkp := hW.kp
        have hs := hW.t1 (hall 14 (by show 14 < 15; omega))
        obtain ⟨hg, hbx⟩ := hW.md 13 4 (-1000) 1000 (by simp) (hall 13 (by show 13 < 15; omega))
        obtain ⟨a1, a2, a3, a4, hc4⟩ := four (hW.cl 13 4 (-1000) 1000 (by simp) (hall 13 (by show 13 < 15; omega))).1
        have e13 : u 13 = .pointer (some ⟨ρ.b 13, 0, none⟩) := hu 13 (by show 13 < 15; omega)
        rw [hc4] at hbx
        have HG2 := Lib.hid (HI.out.keep hp (hkp.wide fun k q => q.elim id False.elim) hs)
        rw [e13]
        clear e13 hc4
        have hzx := hkp.size
        generalize ρ.b 13 = g at *
        have hne := HI.out.o.ne (Or.inr hg)
        have hgb : w1.heap.size + 1 ≤ g := by omega
        have HX2 := Lib.hid hbx
        have hgl := hbx.lt
        clear hu hall hW HI hkp hs hbx
        go_wp2_with fail
        refine (spec_l01Next p _ _ HG2.out.src (by omega)).mono ?_
        rintro e w3 ⟨z, rfl, za, _, zb, hs3, hk3⟩
        have HG3 := Lib.hid (HG2.out.keep hp hk3 hs3)
        have HX3 := Lib.hid (HX2.out.keep hk3 (by omega))
        have hz3 := hk3.size
        clear hs3 hk3 zb HG2 HX2
        by_cases e0 : z = 0
        · subst e0
          go_wp2_with fail
          refine (spec_l01Next p _ _ (HG3.out.src.below (by (repeat' (first | (with_reducible exact Below.refl _ _) | (with_reducible assumption) | (with_reducible refine Below.alloc ?_ ?_ _) | (with_reducible refine Below.drew ?_) | (with_reducible refine Below.drewN' ?_ _) | (with_reducible refine Below.setCell ?_ ?_ _) | (refine Below.via ?_ (by with_reducible assumption) ?_) | (with_reducible refine Below.via ?_ (Wd.h _) ?_) | go_size)))) (by omega)).mono ?_
          rintro e w4 ⟨r, rfl, ra, _, rb, hs4, hk4⟩
          have rc := rb (by omega)
          have rn : r.toNat < 2 := by omega
          have hld := (hk4.cell w3.heap.size r.toNat (by simp) (by omega)).trans (litA2 w3 2 (-1) 16 r.toNat rn)
          have HG4 := Lib.hid ((HG3.out.below (Below.alloc (Below.refl _ w3) (Nat.le_refl _) _)).keep hp hk4 hs4)
          have HX4 := Lib.hid ((HX3.out.below (Below.alloc (Below.refl _ w3) (Nat.le_refl _) _) HX3.out.lt).keep hk4 (by omega))
          have hz4 := hk4.size
          simp at hz4
          clear hs4 hk4 rb HG3 HX3
          have hbz := HX4.out
          have hy8 := hbz.lt; have cw8_0 := hbz.cell 0 rfl; have fw8_0 := hbz.frozen 0 rfl; have cw8_1 := hbz.cell 1 rfl; have fw8_1 := hbz.frozen 1 rfl; have cw8_2 := hbz.cell 2 rfl; have fw8_2 := hbz.frozen 2 rfl; have cw8_3 := hbz.cell 3 rfl; have fw8_3 := hbz.frozen 3 rfl
          clear hbz
          have HGs := Lib.hid (HG4.out.poke hp hgb hne (wr' := w4.setCell ⟨g, 0, none⟩ (.int .i64 (pick [-1, 16] r.toNat))) ((Keep.refl (· = g) _).one _))
          go_wp2_with ((at_builtin; refine wp_app1x _ rfl (.tmp 61) (.tmp 63) 28 rfl (w1.heap.size + 1) info_OrdX Try.underlying28 rfl (by omega) (by omega) _ _ _ rfl (HGs.out.o.alloc _) _ 1 1 (Ord.cells ⟨pick [-1, 16] r.toNat, a2, a3, a4⟩) rfl rfl (by intro j u hu; match j, hu with | 0, hu => (simp [Ord.cells] at hu; subst hu; first | (simp; done) | exact cell_newK _ _ _ _ _ _ (by simp) rfl) | 1, hu => (simp [Ord.cells] at hu; subst hu; first | (simp; done) | exact cell_newK _ _ _ _ _ _ (by simp) rfl) | 2, hu => (simp [Ord.cells] at hu; subst hu; first | (simp; done) | exact cell_newK _ _ _ _ _ _ (by simp) rfl) | 3, hu => (simp [Ord.cells] at hu; subst hu; first | (simp; done) | exact cell_newK _ _ _ _ _ _ (by simp) rfl) | j + 4, hu => simp [Ord.cells] at hu) (by simp [Ord.cells, Value.oneCell']) (by omega) (by omega) (by first | omega | (simp; done) | (simp; omega)) ?_; intro v7 w7 hO7 hb7 hF7))
          have H7 := Lib.hid ((HGs.out.below (Below.alloc (Below.refl _ _) (Nat.le_refl _) _)).put hp hO7 hb7)
          clear hO7 hF7 hb7
          go_roundw
          case rel => exact ⟨q - 1, l ++ [⟨pick [-1, 16] r.toNat, a2, a3, a4⟩], by go_num, by simp; omega, by simpa using H7.out⟩
          case measure => simp [intOf]; omega
        have n0 : (z == 0) = false := by simpa using e0
        by_cases e1 : z = 1
        · subst e1
          have hbz := HX3.out
          have hy8 := hbz.lt; have cw8_0 := hbz.cell 0 rfl; have fw8_0 := hbz.frozen 0 rfl; have cw8_1 := hbz.cell 1 rfl; have fw8_1 := hbz.frozen 1 rfl; have cw8_2 := hbz.cell 2 rfl; have fw8_2 := hbz.frozen 2 rfl; have cw8_3 := hbz.cell 3 rfl; have fw8_3 := hbz.frozen 3 rfl
          clear hbz
          have hbX := HG3.out.bX
          have hy7 := hbX.lt; have cw7_0 := hbX.cell 0 rfl; have fw7_0 := hbX.frozen 0 rfl; have cw7_1 := hbX.cell 1 rfl; have fw7_1 := hbX.frozen 1 rfl
          clear hbX
          have HGs := Lib.hid (HG3.out.poke hp hgb hne (wr' := w3.setCell ⟨g, 1, none⟩ (.int .i64 (N.nodes.length : Int))) ((Keep.refl (· = g) _).one _))
          go_wp2_with ((at_builtin; refine wp_app1x _ rfl (.tmp 61) (.tmp 63) 28 rfl (w1.heap.size + 1) info_OrdX Try.underlying28 rfl (by omega) (by omega) _ _ _ rfl (HGs.out.o.alloc _) _ 1 1 (Ord.cells ⟨a1, (N.nodes.length : Int), a3, a4⟩) rfl rfl (by intro j u hu; match j, hu with | 0, hu => (simp [Ord.cells] at hu; subst hu; first | (simp; done) | exact cell_newK _ _ _ _ _ _ (by simp) rfl) | 1, hu => (simp [Ord.cells] at hu; subst hu; first | (simp; done) | exact cell_newK _ _ _ _ _ _ (by simp) rfl) | 2, hu => (simp [Ord.cells] at hu; subst hu; first | (simp; done) | exact cell_newK _ _ _ _ _ _ (by simp) rfl) | 3, hu => (simp [Ord.cells] at hu; subst hu; first | (simp; done) | exact cell_newK _ _ _ _ _ _ (by simp) rfl) | j + 4, hu => simp [Ord.cells] at hu) (by simp [Ord.cells, Value.oneCell']) (by omega) (by omega) (by first | omega | (simp; done) | (simp; omega)) ?_; intro v7 w7 hO7 hb7 hF7))
          have H7 := Lib.hid ((HGs.out.below (Below.alloc (Below.refl _ _) (Nat.le_refl _) _)).put hp hO7 hb7)
          clear hO7 hF7 hb7
          go_roundw
          case rel => exact ⟨q - 1, l ++ [⟨a1, (N.nodes.length : Int), a3, a4⟩], by go_num, by simp; omega, by simpa using H7.out⟩
          case measure => simp [intOf]; omega
        have n1 : (z == 1) = false := by simpa using e1
        by_cases e2 : z = 2
        · subst e2
          go_wp2_with fail
          refine (spec_l01Next p _ _ (HG3.out.src.below (by (repeat' (first | (with_reducible exact Below.refl _ _) | (with_reducible assumption) | (with_reducible refine Below.alloc ?_ ?_ _) | (with_reducible refine Below.drew ?_) | (with_reducible refine Below.drewN' ?_ _) | (with_reducible refine Below.setCell ?_ ?_ _) | (refine Below.via ?_ (by with_reducible assumption) ?_) | (with_reducible refine Below.via ?_ (Wd.h _) ?_) | go_size)))) (by omega)).mono ?_
          rintro e w4 ⟨r, rfl, ra, _, rb, hs4, hk4⟩
          have rc := rb (by omega)
          have rn : r.toNat < 3 := by omega
          have hld := (hk4.cell w3.heap.size r.toNat (by simp) (by omega)).trans (litA3 w3 2 30000 30001 (-30000) r.toNat rn)
          have HG4 := Lib.hid ((HG3.out.below (Below.alloc (Below.refl _ w3) (Nat.le_refl _) _)).keep hp hk4 hs4)
          have HX4 := Lib.hid ((HX3.out.below (Below.alloc (Below.refl _ w3) (Nat.le_refl _) _) HX3.out.lt).keep hk4 (by omega))
          have hz4 := hk4.size
          simp at hz4
          clear hs4 hk4 rb HG3 HX3
          have hbz := HX4.out
          have hy8 := hbz.lt; have cw8_0 := hbz.cell 0 rfl; have fw8_0 := hbz.frozen 0 rfl; have cw8_1 := hbz.cell 1 rfl; have fw8_1 := hbz.frozen 1 rfl; have cw8_2 := hbz.cell 2 rfl; have fw8_2 := hbz.frozen 2 rfl; have cw8_3 := hbz.cell 3 rfl; have fw8_3 := hbz.frozen 3 rfl
          clear hbz
          have HGs := Lib.hid (HG4.out.poke hp hgb hne (wr' := w4.setCell ⟨g, 2, none⟩ (.int .i64 (pick [30000, 30001, -30000] r.toNat))) ((Keep.refl (· = g) _).one _))
          go_wp2_with ((at_builtin; refine wp_app1x _ rfl (.tmp 61) (.tmp 63) 28 rfl (w1.heap.size + 1) info_OrdX Try.underlying28 rfl (by omega) (by omega) _ _ _ rfl (HGs.out.o.alloc _) _ 1 1 (Ord.cells ⟨a1, a2, pick [30000, 30001, -30000] r.toNat, a4⟩) rfl rfl (by intro j u hu; match j, hu with | 0, hu => (simp [Ord.cells] at hu; subst hu; first | (simp; done) | exact cell_newK _ _ _ _ _ _ (by simp) rfl) | 1, hu => (simp [Ord.cells] at hu; subst hu; first | (simp; done) | exact cell_newK _ _ _ _ _ _ (by simp) rfl) | 2, hu => (simp [Ord.cells] at hu; subst hu; first | (simp; done) | exact cell_newK _ _ _ _ _ _ (by simp) rfl) | 3, hu => (simp [Ord.cells] at hu; subst hu; first | (simp; done) | exact cell_newK _ _ _ _ _ _ (by simp) rfl) | j + 4, hu => simp [Ord.cells] at hu) (by simp [Ord.cells, Value.oneCell']) (by omega) (by omega) (by first | omega | (simp; done) | (simp; omega)) ?_; intro v7 w7 hO7 hb7 hF7))
          have H7 := Lib.hid ((HGs.out.below (Below.alloc (Below.refl _ _) (Nat.le_refl _) _)).put hp hO7 hb7)
          clear hO7 hF7 hb7
          go_roundw
          case rel => exact ⟨q - 1, l ++ [⟨a1, a2, pick [30000, 30001, -30000] r.toNat, a4⟩], by go_num, by simp; omega, by simpa using H7.out⟩
          case measure => simp [intOf]; omega
        have n2 : (z == 2) = false := by simpa using e2
        by_cases e3 : z = 3
        · subst e3
          have hbz := HX3.out
          have hy8 := hbz.lt; have cw8_0 := hbz.cell 0 rfl; have fw8_0 := hbz.frozen 0 rfl; have cw8_1 := hbz.cell 1 rfl; have fw8_1 := hbz.frozen 1 rfl; have cw8_2 := hbz.cell 2 rfl; have fw8_2 := hbz.frozen 2 rfl; have cw8_3 := hbz.cell 3 rfl; have fw8_3 := hbz.frozen 3 rfl
          clear hbz
          have HGs := Lib.hid (HG3.out.poke hp hgb hne (wr' := w3.setCell ⟨g, 3, none⟩ (.int .i64 4)) ((Keep.refl (· = g) _).one _))
          go_wp2_with ((at_builtin; refine wp_app1x _ rfl (.tmp 61) (.tmp 63) 28 rfl (w1.heap.size + 1) info_OrdX Try.underlying28 rfl (by omega) (by omega) _ _ _ rfl (HGs.out.o.alloc _) _ 1 1 (Ord.cells ⟨a1, a2, a3, 4⟩) rfl rfl (by intro j u hu; match j, hu with | 0, hu => (simp [Ord.cells] at hu; subst hu; first | (simp; done) | exact cell_newK _ _ _ _ _ _ (by simp) rfl) | 1, hu => (simp [Ord.cells] at hu; subst hu; first | (simp; done) | exact cell_newK _ _ _ _ _ _ (by simp) rfl) | 2, hu => (simp [Ord.cells] at hu; subst hu; first | (simp; done) | exact cell_newK _ _ _ _ _ _ (by simp) rfl) | 3, hu => (simp [Ord.cells] at hu; subst hu; first | (simp; done) | exact cell_newK _ _ _ _ _ _ (by simp) rfl) | j + 4, hu => simp [Ord.cells] at hu) (by simp [Ord.cells, Value.oneCell']) (by omega) (by omega) (by first | omega | (simp; done) | (simp; omega)) ?_; intro v7 w7 hO7 hb7 hF7))
          have H7 := Lib.hid ((HGs.out.below (Below.alloc (Below.refl _ _) (Nat.le_refl _) _)).put hp hO7 hb7)
          clear hO7 hF7 hb7
          go_roundw
          case rel => exact ⟨q - 1, l ++ [⟨a1, a2, a3, 4⟩], by go_num, by simp; omega, by simpa using H7.out⟩
          case measure => simp [intOf]; omega
        have n3 : (z == 3) = false := by simpa using e3
        clear e0 e1 e2 e3
        have hbz := HX3.out
        have hy8 := hbz.lt; have cw8_0 := hbz.cell 0 rfl; have fw8_0 := hbz.frozen 0 rfl; have cw8_1 := hbz.cell 1 rfl; have fw8_1 := hbz.frozen 1 rfl; have cw8_2 := hbz.cell 2 rfl; have fw8_2 := hbz.frozen 2 rfl; have cw8_3 := hbz.cell 3 rfl; have fw8_3 := hbz.frozen 3 rfl
        clear hbz
        go_wp2_with ((at_builtin; refine wp_app1x _ rfl (.tmp 61) (.tmp 63) 28 rfl (w1.heap.size + 1) info_OrdX Try.underlying28 rfl (by omega) (by omega) _ _ _ rfl (HG3.out.o.alloc _) _ 1 1 (Ord.cells ⟨a1, a2, a3, a4⟩) rfl rfl (by intro j u hu; match j, hu with | 0, hu => (simp [Ord.cells] at hu; subst hu; first | (simp; done) | exact cell_newK _ _ _ _ _ _ (by simp) rfl) | 1, hu => (simp [Ord.cells] at hu; subst hu; first | (simp; done) | exact cell_newK _ _ _ _ _ _ (by simp) rfl) | 2, hu => (simp [Ord.cells] at hu; subst hu; first | (simp; done) | exact cell_newK _ _ _ _ _ _ (by simp) rfl) | 3, hu => (simp [Ord.cells] at hu; subst hu; first | (simp; done) | exact cell_newK _ _ _ _ _ _ (by simp) rfl) | j + 4, hu => simp [Ord.cells] at hu) (by simp [Ord.cells, Value.oneCell']) (by omega) (by omega) (by first | omega | (simp; done) | (simp; omega)) ?_; intro v7 w7 hO7 hb7 hF7))
        have H7 := Lib.hid ((HG3.out.below (Below.alloc (Below.refl _ _) (Nat.le_refl _) _)).put hp hO7 hb7)
        clear hO7 hF7 hb7
        go_roundw
        case rel => exact ⟨q - 1, l ++ [⟨a1, a2, a3, a4⟩], by go_num, by simp; omega, by simpa using H7.out⟩
        case measure => simp [intOf]; omega
end Go.Proofs.Ythdonmdhlgajhaa
