/- Drawn plans. -/
import Derived.Test.YtinlaokblnhgoaaDoorDs
import Derived.Test.YtinlaokblnhgoaaDoorSp
import Derived.Test.YtinlaokblnhgoaaDoorAp2
import Derived.Test.YtinlaokblnhgoaaDoorTrs
namespace Go.Proofs.YtinlaokblnhgoaaDoor
set_option linter.unusedVariables false
set_option linter.unusedSimpArgs false
open Go.RowKit
theorem Own.keepF {w w' : World} {base p s n : Nat} {e : TypeId} {v : Value} {xs : List Value} (h : Own w base e s v n xs) (hk : Keep (· = p) w w') (hp : p < base) : Own w' base e s v n xs :=
  World.ownsRow.kept (row := some p) h ⟨hk.os, hk.tape, hk.output, hk.size, fun k h1 h2 => hk.block k h1 (by rintro rfl; exact h2 rfl)⟩ (Or.inr (h.ne (Or.inl hp)))
abbrev z5 : List Value := [.int .i64 0, .int .i64 0, .int .i64 0, .int .i64 0, .int .i64 0]
/-- what goes around the loop of DrawFollowPlan: the store in box X, the list of the call's own -/
structure DF (w : World) (X : Nat) (cs : List Value) (u : Value) (l : List Int) (wr : World) : Prop where
  o : Own wr (X + 1) 2 1 u l.length (l.map iV)
  src : Src wr (w.heap.size + 1)
  bl : Below w.heap.size w wr
  b0 : Bx wr w.heap.size z5
  bX : Bx wr X cs
  sX : w.heap.size + 1 < X
  bd : ∀ x ∈ l, -1000000 ≤ x ∧ x ≤ 1000000
  sz : X + 1 ≤ wr.heap.size
section
variable {w wr wr' : World} {X : Nat} {cs : List Value} {u u' : Value} {l : List Int}
theorem DF.keep (h : DF w X cs u l wr) (hk : Keep (· = w.heap.size + 1) wr wr') (hs : Src wr' (w.heap.size + 1)) : DF w X cs u l wr' := by
  have hX := h.sX
  exact ⟨h.o.keepF hk (by omega), hs, hk.below h.bl h.bl.size (fun k q => by omega), h.b0.keep hk (by omega), h.bX.keep hk (by omega), h.sX, h.bd, Nat.le_trans h.sz hk.size⟩
theorem DF.below (h : DF w X cs u l wr) (hb : Below wr.heap.size wr wr') : DF w X cs u l wr' :=
  ⟨h.o.below hb (Nat.le_refl _), h.src.below hb, h.bl.trans (hb.mono h.bl.size), h.b0.below hb h.b0.lt, h.bX.below hb h.bX.lt, h.sX, h.bd, Nat.le_trans h.sz hb.size⟩
theorem DF.app {x : Int} (h : DF w X cs u l wr) (ho : Own wr' (X + 1) 2 1 u' (l.length + 1) (l.map iV ++ [iV x])) (hb : Below (X + 1) wr wr') (hx : -1000000 ≤ x ∧ x ≤ 1000000) : DF w X cs u' (l ++ [x]) wr' := by
  have hX := h.sX
  have hsz := h.sz
  refine ⟨by simpa using ho, h.src.high hb (by omega), ?_, h.b0.below hb (by omega), h.bX.below hb (by omega), h.sX, fun y hy => ?_, Nat.le_trans h.sz hb.size⟩
  · have hk : Keep (fun k => X + 1 ≤ k) wr wr' := ⟨hb.os, hb.tape, hb.output, hb.size, fun k _ h2 => hb.block k (by omega)⟩
    exact hk.below h.bl h.bl.size (fun k q => by omega)
  · rcases List.mem_append.1 hy with hy | hy
    · exact h.bd y hy
    · rw [List.mem_singleton.1 hy]; exact hx
end
theorem rep_zero (n : Nat) : (List.replicate n (0 : Int)).map iV = List.replicate n (.int .i64 0) := by simp
set_option maxRecDepth 100000 in
set_option maxHeartbeats 8000000 in
theorem spec_DrawFollowPlan (A : Option Addr) (c : Nat) (l : List Int) (w : World) (h : BytesIn w A l) (hl : l.length ≤ 4096) :
    Calls Tryd.prog 5 #[.slice A l.length c] w fun e w' => ∃ (s : Sv) (B : Option Addr) (d : Nat) (q : List Int), e = .returned (.tuple #[stV s.lo s.hi s.now s.i s.o, .slice B q.length d]) ∧ s.sm ∧ Rd w' B (q.map iV) ∧ q.length ≤ 50 ∧ (∀ x ∈ q, -1000000 ≤ x ∧ x ≤ 1000000) ∧ Below w.heap.size w w' := by
  have HI := Lib.hid h
  clear h
  go_enter Tryd.func5, Tryd.ntmps5
  go_wp2_with fail
  refine (spec_l01From A c l _ (HI.out.below (by (repeat' (first | (with_reducible exact Below.refl _ _) | (with_reducible assumption) | (with_reducible refine Below.alloc ?_ ?_ _) | (with_reducible refine Below.drew ?_) | (with_reducible refine Below.drewN' ?_ _) | (with_reducible refine Below.setCell ?_ ?_ _) | (refine Below.via ?_ (by with_reducible assumption) ?_) | (with_reducible refine Below.via ?_ (Wd.h _) ?_) | go_size)))) hl).mono ?_
  rintro e w1 ⟨rfl, hs1, hb1⟩
  have hs1 : Src w1 (w.heap.size + 1) := by simpa using hs1
  have HS1 := Lib.hid hs1
  clear hs1
  (obtain ⟨hcn, hfn⟩ := bcell hb1; have hz1 := hb1.size; (try simp at hz1); have Ncw0_0 := hcn (w.heap.size) (0) (by first | omega | (simp; done) | (simp; omega)); have Nfw0_0 := hfn (w.heap.size) (0) (by first | omega | (simp; done) | (simp; omega)); have Nhy0 : w.heap.size < w1.heap.size := (by omega); have Ncw0_1 := hcn (w.heap.size) (1) (by first | omega | (simp; done) | (simp; omega)); have Nfw0_1 := hfn (w.heap.size) (1) (by first | omega | (simp; done) | (simp; omega)); have Ncw0_2 := hcn (w.heap.size) (2) (by first | omega | (simp; done) | (simp; omega)); have Nfw0_2 := hfn (w.heap.size) (2) (by first | omega | (simp; done) | (simp; omega)); have Ncw0_3 := hcn (w.heap.size) (3) (by first | omega | (simp; done) | (simp; omega)); have Nfw0_3 := hfn (w.heap.size) (3) (by first | omega | (simp; done) | (simp; omega)); have Ncw0_4 := hcn (w.heap.size) (4) (by first | omega | (simp; done) | (simp; omega)); have Nfw0_4 := hfn (w.heap.size) (4) (by first | omega | (simp; done) | (simp; omega)); simp [go_sem] at Ncw0_0 Nfw0_0 Ncw0_1 Nfw0_1 Ncw0_2 Nfw0_2 Ncw0_3 Nfw0_3 Ncw0_4 Nfw0_4; clear hcn hfn; have cw0_0 := Ncw0_0; have fw0_0 := Nfw0_0; have cw0_1 := Ncw0_1; have fw0_1 := Nfw0_1; have cw0_2 := Ncw0_2; have fw0_2 := Nfw0_2; have cw0_3 := Ncw0_3; have fw0_3 := Nfw0_3; have cw0_4 := Ncw0_4; have fw0_4 := Nfw0_4; have hy0 := Nhy0; clear Ncw0_0 Nfw0_0 Ncw0_1 Nfw0_1 Ncw0_2 Nfw0_2 Ncw0_3 Nfw0_3 Ncw0_4 Nfw0_4 Nhy0)
  go_wp2_with fail
  refine (spec_l17Draw (w.heap.size + 1) _ (HS1.out.below (by (repeat' (first | (with_reducible exact Below.refl _ _) | (with_reducible assumption) | (with_reducible refine Below.alloc ?_ ?_ _) | (with_reducible refine Below.drew ?_) | (with_reducible refine Below.drewN' ?_ _) | (with_reducible refine Below.setCell ?_ ?_ _) | (refine Below.via ?_ (by with_reducible assumption) ?_) | (with_reducible refine Below.via ?_ (Wd.h _) ?_) | go_size))))).mono ?_
  rintro e w2 ⟨⟨lo, hi, now, i, o⟩, rfl, hsm, hs2, hk2⟩
  have HM := Lib.hid hsm
  have hb2 : Below w.heap.size w w2 := hk2.below (by (repeat' (first | (with_reducible exact Below.refl _ _) | (with_reducible assumption) | (with_reducible refine Below.alloc ?_ ?_ _) | (with_reducible refine Below.drew ?_) | (with_reducible refine Below.drewN' ?_ _) | (with_reducible refine Below.setCell ?_ ?_ _) | (refine Below.via ?_ (by with_reducible assumption) ?_) | (with_reducible refine Below.via ?_ (Wd.h _) ?_) | go_size))) (by go_size) (by intro k hq; (try simp only at hq); omega)
  (have hz2 := hk2.size; (try simp at hz2); have Ncw0_0 := hk2.cell (w.heap.size) (0) (by first | omega | (simp; done) | (simp; omega)) (by intro hq; (try simp only at hq); omega); have Nfw0_0 := hk2.frozen (w.heap.size) (0) (by first | omega | (simp; done) | (simp; omega)) (by intro hq; (try simp only at hq); omega); have Nhy0 : w.heap.size < w2.heap.size := (by omega); have Ncw0_1 := hk2.cell (w.heap.size) (1) (by first | omega | (simp; done) | (simp; omega)) (by intro hq; (try simp only at hq); omega); have Nfw0_1 := hk2.frozen (w.heap.size) (1) (by first | omega | (simp; done) | (simp; omega)) (by intro hq; (try simp only at hq); omega); have Ncw0_2 := hk2.cell (w.heap.size) (2) (by first | omega | (simp; done) | (simp; omega)) (by intro hq; (try simp only at hq); omega); have Nfw0_2 := hk2.frozen (w.heap.size) (2) (by first | omega | (simp; done) | (simp; omega)) (by intro hq; (try simp only at hq); omega); have Ncw0_3 := hk2.cell (w.heap.size) (3) (by first | omega | (simp; done) | (simp; omega)) (by intro hq; (try simp only at hq); omega); have Nfw0_3 := hk2.frozen (w.heap.size) (3) (by first | omega | (simp; done) | (simp; omega)) (by intro hq; (try simp only at hq); omega); have Ncw0_4 := hk2.cell (w.heap.size) (4) (by first | omega | (simp; done) | (simp; omega)) (by intro hq; (try simp only at hq); omega); have Nfw0_4 := hk2.frozen (w.heap.size) (4) (by first | omega | (simp; done) | (simp; omega)) (by intro hq; (try simp only at hq); omega); simp [go_sem, cw0_0, fw0_0, cw0_1, fw0_1, cw0_2, fw0_2, cw0_3, fw0_3, cw0_4, fw0_4, hy0] at Ncw0_0 Nfw0_0 Ncw0_1 Nfw0_1 Ncw0_2 Nfw0_2 Ncw0_3 Nfw0_3 Ncw0_4 Nfw0_4; clear cw0_0 fw0_0 cw0_1 fw0_1 cw0_2 fw0_2 cw0_3 fw0_3 cw0_4 fw0_4 hy0; have cw0_0 := Ncw0_0; have fw0_0 := Nfw0_0; have cw0_1 := Ncw0_1; have fw0_1 := Nfw0_1; have cw0_2 := Ncw0_2; have fw0_2 := Nfw0_2; have cw0_3 := Ncw0_3; have fw0_3 := Nfw0_3; have cw0_4 := Ncw0_4; have fw0_4 := Nfw0_4; have hy0 := Nhy0; clear Ncw0_0 Nfw0_0 Ncw0_1 Nfw0_1 Ncw0_2 Nfw0_2 Ncw0_3 Nfw0_3 Ncw0_4 Nfw0_4 Nhy0)
  have hp2 := hs2.lt
  have hx0 : Bx w2 w.heap.size z5 := (bx5 (by first | exact hy0 | go_size) (by first | (with_reducible exact cw0_0) | go_cell_look | (simp [go_sem, hy0, cw0_0, fw0_0, cw0_1, fw0_1, cw0_2, fw0_2, cw0_3, fw0_3, cw0_4, fw0_4]; done) | (simp [go_sem]; done)) (by first | (with_reducible exact fw0_0) | (simp only [World.frozen?_setCell, fw0_0]; done) | (simp [go_sem, hy0, cw0_0, fw0_0, cw0_1, fw0_1, cw0_2, fw0_2, cw0_3, fw0_3, cw0_4, fw0_4]; done) | (simp [go_sem]; done)) (by first | (with_reducible exact cw0_1) | go_cell_look | (simp [go_sem, hy0, cw0_0, fw0_0, cw0_1, fw0_1, cw0_2, fw0_2, cw0_3, fw0_3, cw0_4, fw0_4]; done) | (simp [go_sem]; done)) (by first | (with_reducible exact fw0_1) | (simp only [World.frozen?_setCell, fw0_1]; done) | (simp [go_sem, hy0, cw0_0, fw0_0, cw0_1, fw0_1, cw0_2, fw0_2, cw0_3, fw0_3, cw0_4, fw0_4]; done) | (simp [go_sem]; done)) (by first | (with_reducible exact cw0_2) | go_cell_look | (simp [go_sem, hy0, cw0_0, fw0_0, cw0_1, fw0_1, cw0_2, fw0_2, cw0_3, fw0_3, cw0_4, fw0_4]; done) | (simp [go_sem]; done)) (by first | (with_reducible exact fw0_2) | (simp only [World.frozen?_setCell, fw0_2]; done) | (simp [go_sem, hy0, cw0_0, fw0_0, cw0_1, fw0_1, cw0_2, fw0_2, cw0_3, fw0_3, cw0_4, fw0_4]; done) | (simp [go_sem]; done)) (by first | (with_reducible exact cw0_3) | go_cell_look | (simp [go_sem, hy0, cw0_0, fw0_0, cw0_1, fw0_1, cw0_2, fw0_2, cw0_3, fw0_3, cw0_4, fw0_4]; done) | (simp [go_sem]; done)) (by first | (with_reducible exact fw0_3) | (simp only [World.frozen?_setCell, fw0_3]; done) | (simp [go_sem, hy0, cw0_0, fw0_0, cw0_1, fw0_1, cw0_2, fw0_2, cw0_3, fw0_3, cw0_4, fw0_4]; done) | (simp [go_sem]; done)) (by first | (with_reducible exact cw0_4) | go_cell_look | (simp [go_sem, hy0, cw0_0, fw0_0, cw0_1, fw0_1, cw0_2, fw0_2, cw0_3, fw0_3, cw0_4, fw0_4]; done) | (simp [go_sem]; done)) (by first | (with_reducible exact fw0_4) | (simp only [World.frozen?_setCell, fw0_4]; done) | (simp [go_sem, hy0, cw0_0, fw0_0, cw0_1, fw0_1, cw0_2, fw0_2, cw0_3, fw0_3, cw0_4, fw0_4]; done) | (simp [go_sem]; done)))
  have h0 : DF w w2.heap.size [.int .i64 lo, .int .i64 hi, .int .i64 now, .int .i64 i, .int .i64 o] (.slice (some ⟨w2.heap.size + 1, 0, none⟩) 0 0) [] ((w2.alloc (.cells #[.int .i64 lo, .int .i64 hi, .int .i64 now, .int .i64 i, .int .i64 o] 25)).alloc (.cells #[] 2)) := by
    have hb : Below w2.heap.size w2 ((w2.alloc (.cells #[.int .i64 lo, .int .i64 hi, .int .i64 now, .int .i64 i, .int .i64 o] 25)).alloc (.cells #[] 2)) := by (repeat' (first | (with_reducible exact Below.refl _ _) | (with_reducible assumption) | (with_reducible refine Below.alloc ?_ ?_ _) | (with_reducible refine Below.drew ?_) | (with_reducible refine Below.drewN' ?_ _) | (with_reducible refine Below.setCell ?_ ?_ _) | (refine Below.via ?_ (by with_reducible assumption) ?_) | (with_reducible refine Below.via ?_ (Wd.h _) ?_) | go_size))
    refine ⟨?_, hs2.below hb, hb2.trans (hb.mono hb2.size), hx0.below hb hx0.lt, bx5 (by simp; omega) (by simp [go_sem]) (by simp [go_sem]) (by simp [go_sem]) (by simp [go_sem]) (by simp [go_sem]) (by simp [go_sem]) (by simp [go_sem]) (by simp [go_sem]) (by simp [go_sem]) (by simp [go_sem]), by omega, by simp, by simp⟩
    simpa using Own.lit0 (w2.alloc (.cells #[.int .i64 lo, .int .i64 hi, .int .i64 now, .int .i64 i, .int .i64 o] 25)) (w2.heap.size + 1) 2 1 (by simp)
  have H0 := Lib.hid h0
  clear h0 hs2 hk2 hb1 hb2 hx0 hsm hy0 cw0_0 fw0_0 cw0_1 fw0_1 cw0_2 fw0_2 cw0_3 fw0_3 cw0_4 fw0_4
  go_wp2_with fail
  refine (spec_l01Next (w.heap.size + 1) _ _ H0.out.src (by omega)).mono ?_
  rintro e w3 ⟨n, rfl, na, _, nb, hs3, hk3⟩
  have nc := nb (by omega)
  have H3 := Lib.hid (H0.out.keep hk3 hs3)
  clear hs3 hk3 nb H0
  obtain ⟨n, rfl⟩ : ∃ k : Nat, n = k := ⟨n.toNat, by omega⟩
  go_wp2_with fail
  go_loopw [6, 7] (fun u t wr => ∃ (q : Nat) (l : List Int), t = .int .i64 q ∧ q + l.length ≤ 9 ∧ DF w w2.heap.size [.int .i64 lo, .int .i64 hi, .int .i64 now, .int .i64 i, .int .i64 o] u l wr) (fun _ t _ => (intOf t).toNat)
  case atStart => exact ⟨n, [], rfl, by simp; omega, H3.out⟩
  case round =>
    clear H3
    obtain ⟨q, l, rfl, hq, hI⟩ := hrel
    have HI := Lib.hid hI
    clear hI
    by_cases hlt : 0 < q
    · have g1 : (0 : Int) < q := by omega
      go_wp2_with fail
      refine (spec_l01Next (w.heap.size + 1) _ _ HI.out.src (by omega)).mono ?_
      rintro e w4 ⟨r, rfl, ra, _, rb, hs4, hk4⟩
      have rc := rb (by omega)
      have H4 := Lib.hid (HI.out.keep hk4 hs4)
      have hz4 := H4.out.sz
      clear hs4 hk4 rb HI
      go_wp2_with ((at_builtin; refine wp_app1 _ rfl (.tmp 19) (.tmp 23) 26 rfl (w2.heap.size + 1) info_i64 Tryd.underlying26 rfl (by omega) (by omega) _ _ _ rfl (H4.out.o.alloc _) _ 1 1 [iV (r - 60)] rfl rfl (by intro j u hu; match j, hu with | 0, hu => (simp at hu; subst hu; simp) | j + 1, hu => simp at hu) (by simp [Value.oneCell']) (by omega) (by simp; omega) ?_; intro v5 w5 hO5 hb5))
      have H5 := Lib.hid ((H4.out.below (Below.alloc (Below.refl _ w4) (Nat.le_refl _) _)).app hO5 hb5 (by omega))
      clear hO5 hb5
      go_roundw
      case rel => exact ⟨q - 1, l ++ [r - 60], by go_num, by simp; omega, H5.out⟩
      case measure => simp [intOf]; omega
    · have g1 : ¬ (0 : Int) < q := by omega
      go_wp2_with fail
      refine (spec_l01Next (w.heap.size + 1) _ _ HI.out.src (by omega)).mono ?_
      rintro e w4 ⟨z, rfl, za, _, zb, hs4, hk4⟩
      have H4 := Lib.hid (HI.out.keep hk4 hs4)
      clear hs4 hk4 zb HI
      by_cases e0 : z = 0
      · subst e0
        go_wp2_with fail
        refine (spec_l01Next (w.heap.size + 1) _ _ H4.out.src (by omega)).mono ?_
        rintro e w5 ⟨r, rfl, ra, _, rb, hs5, hk5⟩
        have rc := rb (by omega)
        have H5 := Lib.hid (H4.out.keep hk5 hs5)
        clear hs5 hk5 rb H4
        obtain ⟨nn, hnn⟩ : ∃ nn : Nat, 48 + r = (nn : Int) := ⟨(48 + r).toNat, by omega⟩
        have hnn2 : nn ≤ 50 := by omega
        have hmk := make_i64 nn (by omega)
        have hb0 := H5.out.b0
        have hbX := H5.out.bX
        have cz0 := hb0.cell 0 rfl
        have fz0 := hb0.frozen 0 rfl
        have cx0 := hbX.cell 0 rfl
        have cz1 := hb0.cell 1 rfl
        have fz1 := hb0.frozen 1 rfl
        have cx1 := hbX.cell 1 rfl
        have cz2 := hb0.cell 2 rfl
        have fz2 := hb0.frozen 2 rfl
        have cx2 := hbX.cell 2 rfl
        have cz3 := hb0.cell 3 rfl
        have fz3 := hb0.frozen 3 rfl
        have cx3 := hbX.cell 3 rfl
        have cz4 := hb0.cell 4 rfl
        have fz4 := hb0.frozen 4 rfl
        have cx4 := hbX.cell 4 rfl
        have hy0 := hb0.lt
        have hyX := hbX.lt
        have hsX := H5.out.sX
        clear hb0 hbX
        have hsz5 := H5.out.sz
        go_wp2
        have hbf := fill5 (H5.out.bl) (Nat.le_refl _) (H5.out.b0) (.int .i64 lo) (.int .i64 hi) (.int .i64 now) (.int .i64 i) (.int .i64 o)
        have hsw : (((((w5.setCell ⟨w.heap.size, 0, none⟩ (.int .i64 lo)).setCell ⟨w.heap.size, 1, none⟩ (.int .i64 hi)).setCell ⟨w.heap.size, 2, none⟩ (.int .i64 now)).setCell ⟨w.heap.size, 3, none⟩ (.int .i64 i)).setCell ⟨w.heap.size, 4, none⟩ (.int .i64 o)).heap.size = w5.heap.size := by simp
        revert hbf hsw
        generalize World.setCell _ _ _ = w8
        rintro ⟨hbf, hbel⟩ hsw
        have har := Arr.madeI w8 nn 2
        have hbf := hbf.below (Below.alloc (Below.refl _ w8) (Nat.le_refl _) (.cells (madeCells #[Value.int .i64 0] nn) 2)) hbf.lt
        have hbel := hbel.alloc (by omega) (.cells (madeCells #[Value.int .i64 0] nn) 2)
        rw [hsw] at har
        have hrr := har.rd
        clear har hsw
        revert hbf hbel hrr
        generalize World.alloc w8 _ = w9
        intro hbf hbel hrr
        have k0 := hbf.cell 0 rfl
        have k1 := hbf.cell 1 rfl
        have k2 := hbf.cell 2 rfl
        have k3 := hbf.cell 3 rfl
        have k4 := hbf.cell 4 rfl
        refine bodyPost_ret (v := .tuple #[stV lo hi now i o, .slice (some ⟨w5.heap.size, 0, none⟩) nn nn]) (by simp [results, Tryd.results5, go_sem, k0, k1, k2, k3, k4]; try rfl) rfl ?_
        exact ⟨⟨lo, hi, now, i, o⟩, some ⟨w5.heap.size, 0, none⟩, nn, List.replicate nn 0, by simp, HM.out, hrr, by simp; omega, (fun x hx => by rw [(List.mem_replicate.1 hx).2]; omega), hbel⟩
      by_cases e1 : z = 1
      · subst e1
        go_wp2_with fail
        refine (spec_l01Next (w.heap.size + 1) _ _ (H4.out.src.below (by (repeat' (first | (with_reducible exact Below.refl _ _) | (with_reducible assumption) | (with_reducible refine Below.alloc ?_ ?_ _) | (with_reducible refine Below.drew ?_) | (with_reducible refine Below.drewN' ?_ _) | (with_reducible refine Below.setCell ?_ ?_ _) | (refine Below.via ?_ (by with_reducible assumption) ?_) | (with_reducible refine Below.via ?_ (Wd.h _) ?_) | go_size)))) (by omega)).mono ?_
        rintro e w5 ⟨r, rfl, ra, _, rb, hs5, hk5⟩
        have rc := rb (by omega)
        have hsX := H4.out.sX
        have hsz4 := H4.out.sz
        have c30 := (hk5.cell w4.heap.size 0 (by simp) (by omega)).trans (show _ = some (Value.int .i64 30000) by simp)
        have c31 := (hk5.cell w4.heap.size 1 (by simp) (by omega)).trans (show _ = some (Value.int .i64 30001) by simp)
        have H5 := Lib.hid ((H4.out.below (Below.alloc (Below.refl _ w4) (Nat.le_refl _) _)).keep hk5 hs5)
        clear hs5 hk5 rb H4
        have hsz5 := H5.out.sz
        rcases (show r = 0 ∨ r = 1 by omega) with rfl | rfl
        · go_wp2_with ((at_builtin; refine wp_app1 _ rfl (.tmp 35) (.tmp 41) 26 rfl (w2.heap.size + 1) info_i64 Tryd.underlying26 rfl (by omega) (by omega) _ _ _ rfl (H5.out.o.alloc _) _ 1 1 [iV 30000] rfl rfl (by intro j u hu; match j, hu with | 0, hu => (simp at hu; subst hu; simp) | j + 1, hu => simp at hu) (by simp [Value.oneCell']) (by omega) (by simp; omega) ?_; intro v6 w6 hO6 hb6; have H6 := Lib.hid ((H5.out.below (Below.alloc (Below.refl _ w5) (Nat.le_refl _) _)).app hO6 hb6 (show -1000000 ≤ (30000 : Int) ∧ (30000 : Int) ≤ 1000000 by omega)); obtain ⟨B6, d6, rfl, -, hr6, hl6⟩ := H6.out.o.val; have HR6 := Lib.hid (And.intro hr6 hl6); clear hO6 hb6 hr6 hl6; have hb0 := H6.out.b0; have hbX := H6.out.bX; have cz0 := hb0.cell 0 rfl; have fz0 := hb0.frozen 0 rfl; have cx0 := hbX.cell 0 rfl; have cz1 := hb0.cell 1 rfl; have fz1 := hb0.frozen 1 rfl; have cx1 := hbX.cell 1 rfl; have cz2 := hb0.cell 2 rfl; have fz2 := hb0.frozen 2 rfl; have cx2 := hbX.cell 2 rfl; have cz3 := hb0.cell 3 rfl; have fz3 := hb0.frozen 3 rfl; have cx3 := hbX.cell 3 rfl; have cz4 := hb0.cell 4 rfl; have fz4 := hb0.frozen 4 rfl; have cx4 := hbX.cell 4 rfl; have hy0 := hb0.lt; have hyX := hbX.lt; clear hb0 hbX))
          have hbf := fill5 (H6.out.bl) (Nat.le_refl _) (H6.out.b0) (.int .i64 lo) (.int .i64 hi) (.int .i64 now) (.int .i64 i) (.int .i64 o)
          have hrr := (HR6.out.1).keep (keep5 (b := w.heap.size) (.int .i64 lo) (.int .i64 hi) (.int .i64 now) (.int .i64 i) (.int .i64 o)) (fun b off e z => by have := HR6.out.2 b off e; omega)
          revert hbf hrr
          generalize World.setCell _ _ _ = w9
          rintro ⟨hbf, hbel⟩ hrr
          have k0 := hbf.cell 0 rfl
          have k1 := hbf.cell 1 rfl
          have k2 := hbf.cell 2 rfl
          have k3 := hbf.cell 3 rfl
          have k4 := hbf.cell 4 rfl
          refine bodyPost_ret (v := .tuple #[stV lo hi now i o, .slice B6 (l ++ [30000]).length d6]) (by simp [results, Tryd.results5, go_sem, k0, k1, k2, k3, k4]; try rfl) rfl ?_
          exact ⟨⟨lo, hi, now, i, o⟩, B6, d6, l ++ [30000], rfl, HM.out, hrr, by simp; omega, H6.out.bd, hbel⟩
        · go_wp2_with ((at_builtin; refine wp_app1 _ rfl (.tmp 35) (.tmp 41) 26 rfl (w2.heap.size + 1) info_i64 Tryd.underlying26 rfl (by omega) (by omega) _ _ _ rfl (H5.out.o.alloc _) _ 1 1 [iV 30001] rfl rfl (by intro j u hu; match j, hu with | 0, hu => (simp at hu; subst hu; simp) | j + 1, hu => simp at hu) (by simp [Value.oneCell']) (by omega) (by simp; omega) ?_; intro v6 w6 hO6 hb6; have H6 := Lib.hid ((H5.out.below (Below.alloc (Below.refl _ w5) (Nat.le_refl _) _)).app hO6 hb6 (show -1000000 ≤ (30001 : Int) ∧ (30001 : Int) ≤ 1000000 by omega)); obtain ⟨B6, d6, rfl, -, hr6, hl6⟩ := H6.out.o.val; have HR6 := Lib.hid (And.intro hr6 hl6); clear hO6 hb6 hr6 hl6; have hb0 := H6.out.b0; have hbX := H6.out.bX; have cz0 := hb0.cell 0 rfl; have fz0 := hb0.frozen 0 rfl; have cx0 := hbX.cell 0 rfl; have cz1 := hb0.cell 1 rfl; have fz1 := hb0.frozen 1 rfl; have cx1 := hbX.cell 1 rfl; have cz2 := hb0.cell 2 rfl; have fz2 := hb0.frozen 2 rfl; have cx2 := hbX.cell 2 rfl; have cz3 := hb0.cell 3 rfl; have fz3 := hb0.frozen 3 rfl; have cx3 := hbX.cell 3 rfl; have cz4 := hb0.cell 4 rfl; have fz4 := hb0.frozen 4 rfl; have cx4 := hbX.cell 4 rfl; have hy0 := hb0.lt; have hyX := hbX.lt; clear hb0 hbX))
          have hbf := fill5 (H6.out.bl) (Nat.le_refl _) (H6.out.b0) (.int .i64 lo) (.int .i64 hi) (.int .i64 now) (.int .i64 i) (.int .i64 o)
          have hrr := (HR6.out.1).keep (keep5 (b := w.heap.size) (.int .i64 lo) (.int .i64 hi) (.int .i64 now) (.int .i64 i) (.int .i64 o)) (fun b off e z => by have := HR6.out.2 b off e; omega)
          revert hbf hrr
          generalize World.setCell _ _ _ = w9
          rintro ⟨hbf, hbel⟩ hrr
          have k0 := hbf.cell 0 rfl
          have k1 := hbf.cell 1 rfl
          have k2 := hbf.cell 2 rfl
          have k3 := hbf.cell 3 rfl
          have k4 := hbf.cell 4 rfl
          refine bodyPost_ret (v := .tuple #[stV lo hi now i o, .slice B6 (l ++ [30001]).length d6]) (by simp [results, Tryd.results5, go_sem, k0, k1, k2, k3, k4]; try rfl) rfl ?_
          exact ⟨⟨lo, hi, now, i, o⟩, B6, d6, l ++ [30001], rfl, HM.out, hrr, by simp; omega, H6.out.bd, hbel⟩
      · have b0 : (z == 0) = false := by simpa using e0
        have b1 : (z == 1) = false := by simpa using e1
        obtain ⟨B6, d6, rfl, -, hr6, hl6⟩ := H4.out.o.val
        have HR6 := Lib.hid (And.intro hr6 hl6)
        clear hr6 hl6 e0 e1
        have hb0 := H4.out.b0
        have hbX := H4.out.bX
        have cz0 := hb0.cell 0 rfl
        have fz0 := hb0.frozen 0 rfl
        have cx0 := hbX.cell 0 rfl
        have cz1 := hb0.cell 1 rfl
        have fz1 := hb0.frozen 1 rfl
        have cx1 := hbX.cell 1 rfl
        have cz2 := hb0.cell 2 rfl
        have fz2 := hb0.frozen 2 rfl
        have cx2 := hbX.cell 2 rfl
        have cz3 := hb0.cell 3 rfl
        have fz3 := hb0.frozen 3 rfl
        have cx3 := hbX.cell 3 rfl
        have cz4 := hb0.cell 4 rfl
        have fz4 := hb0.frozen 4 rfl
        have cx4 := hbX.cell 4 rfl
        have hy0 := hb0.lt
        have hyX := hbX.lt
        have hsX := H4.out.sX
        clear hb0 hbX
        go_wp2
        have hbf := fill5 (H4.out.bl) (Nat.le_refl _) (H4.out.b0) (.int .i64 lo) (.int .i64 hi) (.int .i64 now) (.int .i64 i) (.int .i64 o)
        have hrr := (HR6.out.1).keep (keep5 (b := w.heap.size) (.int .i64 lo) (.int .i64 hi) (.int .i64 now) (.int .i64 i) (.int .i64 o)) (fun b off e z => by have := HR6.out.2 b off e; omega)
        revert hbf hrr
        generalize World.setCell _ _ _ = w9
        rintro ⟨hbf, hbel⟩ hrr
        have k0 := hbf.cell 0 rfl
        have k1 := hbf.cell 1 rfl
        have k2 := hbf.cell 2 rfl
        have k3 := hbf.cell 3 rfl
        have k4 := hbf.cell 4 rfl
        refine bodyPost_ret (v := .tuple #[stV lo hi now i o, .slice B6 l.length d6]) (by simp [results, Tryd.results5, go_sem, k0, k1, k2, k3, k4]; try rfl) rfl ?_
        exact ⟨⟨lo, hi, now, i, o⟩, _, _, l, rfl, HM.out, hrr, by omega, H4.out.bd, hbel⟩
end Go.Proofs.YtinlaokblnhgoaaDoor
