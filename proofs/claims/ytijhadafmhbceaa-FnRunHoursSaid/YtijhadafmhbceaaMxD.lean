/- Drawn regions that draw a number and append it; a drawn region that writes three results. -/
import Derived.Test.YtijhadafmhbceaaDci
import Derived.Deep.DeepCutAuto
namespace Go.Proofs.Ytijhadafmhbceaa
set_option linter.unusedVariables false
set_option linter.unusedSimpArgs false
open Go.RowKit
structure DG (w : World) (p X base : Nat) (A Bq : Option Addr) (c d : Nat) (N : Net) (e : TypeId) (s : Nat) (u : Value) (n : Nat) (xs : List Value) (wr : World) : Prop where
  o : Own wr base e s u n xs
  net : NetAt wr A Bq N
  bA : ∀ b off, A = some ⟨b, off, none⟩ → w.heap.size < b ∧ b < base
  bB : ∀ b off, Bq = some ⟨b, off, none⟩ → w.heap.size < b ∧ b < base
  src : Src wr p
  kp : Keep (· = p) w wr
  b0 : Bx wr w.heap.size [.slice none 0 0, .slice none 0 0]
  bX : Bx wr X [.slice A N.nodes.length c, .slice Bq N.pipes.length d]
  sX : w.heap.size < X ∧ X < base
  sz : base ≤ wr.heap.size
section
variable {w wr wr' : World} {p X base : Nat} {A Bq : Option Addr} {c d : Nat} {N : Net} {e : TypeId} {s n n' : Nat} {u u' : Value} {xs xs' : List Value}
theorem DG.keep (h : DG w p X base A Bq c d N e s u n xs wr) (hp : p < w.heap.size) (hk : Keep (· = p) wr wr') (hs : Src wr' p) : DG w p X base A Bq c d N e s u n xs wr' := by
  have hX := h.sX
  exact ⟨h.o.keepp hk (by omega), h.net.keepC hk (fun b off e q => by have := (h.bA b off e).1; omega) (fun b off e q => by have := (h.bB b off e).1; omega), h.bA, h.bB, hs, h.kp.trans hk, h.b0.keep hk (by omega), h.bX.keep hk (by omega), h.sX, Nat.le_trans h.sz hk.size⟩
theorem DG.below (h : DG w p X base A Bq c d N e s u n xs wr) (hb : Below wr.heap.size wr wr') : DG w p X base A Bq c d N e s u n xs wr' :=
  ⟨h.o.below hb (Nat.le_refl _), h.net.below hb, h.bA, h.bB, h.src.below hb, h.kp.trans (Keep.of_below _ hb), h.b0.below hb h.b0.lt, h.bX.below hb h.bX.lt, h.sX, Nat.le_trans h.sz hb.size⟩
/-- a write to the list's memory alone -/
theorem DG.put (h : DG w p X base A Bq c d N e s u n xs wr) (hp : p < w.heap.size) (ho : Own wr' base e s u' n' xs') (hb : Below base wr wr') : DG w p X base A Bq c d N e s u' n' xs' wr' := by
  have hX := h.sX
  have hk : Keep (fun k => base ≤ k) wr wr' := ⟨hb.os, hb.tape, hb.output, hb.size, fun k _ h2 => hb.block k (by omega)⟩
  refine ⟨ho, h.net.keepC hk (fun b off e q => by have := (h.bA b off e).2; omega) (fun b off e q => by have := (h.bB b off e).2; omega), h.bA, h.bB, h.src.high hb (by omega), ?_, h.b0.below hb (by omega), h.bX.below hb hX.2, h.sX, Nat.le_trans h.sz hb.size⟩
  exact ⟨hb.os.trans h.kp.os, hb.tape.trans h.kp.tape, hb.output.trans h.kp.output, Nat.le_trans h.kp.size hb.size, fun q h1 h2 => (hb.block q (by omega)).trans (h.kp.block q h1 h2)⟩
/-- a write to a box made behind the list -/
theorem DG.poke {g : Nat} (h : DG w p X base A Bq c d N e s u n xs wr) (hp : p < w.heap.size) (hg : base ≤ g) (hne : u.ownBlock ≠ some g) (hk : Keep (· = g) wr wr') : DG w p X base A Bq c d N e s u n xs wr' :=
  h.put hp (h.o.keepg hk hne) ⟨hk.os, hk.tape, hk.output, hk.size, fun k q => hk.block k (by have := h.sz; omega) (by omega)⟩
/-- what such a draw hands back -/
def DrewG (w : World) (p : Nat) (f : List Value → Nat → Prop) (e : Ending) (w' : World) : Prop :=
  ∃ (A Bq Al : Option Addr) (c d cl n : Nat) (N : Net) (xs : List Value), e = .returned (.tuple #[netV A Bq N.nodes.length c N.pipes.length d, .slice Al n cl]) ∧ f xs n ∧ N.nodes.length ≤ c ∧ NetAt w' A Bq N ∧ Rd w' Al xs ∧ n ≤ 128 ∧ Src w' p ∧ Keep (· = p) w w' ∧ (∀ b off, A = some ⟨b, off, none⟩ → w.heap.size ≤ b) ∧ (∀ b off, Bq = some ⟨b, off, none⟩ → w.heap.size ≤ b) ∧ (∀ b off, Al = some ⟨b, off, none⟩ → w.heap.size ≤ b)
theorem dg_post {f : List Value → Nat → Prop} {Al : Option Addr} {cl : Nat} (hp : p < w.heap.size) (h : DG w p X base A Bq c d N e s (.slice Al n cl) n xs wr) (hf : f xs n) (hnc : N.nodes.length ≤ c) (hl : n ≤ 128) :
    DrewG w p f (.returned (.tuple #[netV A Bq N.nodes.length c N.pipes.length d, .slice Al n cl])) ((wr.setCell ⟨w.heap.size, 0, none⟩ (.slice A N.nodes.length c)).setCell ⟨w.heap.size, 1, none⟩ (.slice Bq N.pipes.length d)) := by
  have hX := h.sX
  have hb0 := h.b0.lt
  have hsz := h.sz
  have hk : Keep (· = w.heap.size) wr ((wr.setCell ⟨w.heap.size, 0, none⟩ (.slice A N.nodes.length c)).setCell ⟨w.heap.size, 1, none⟩ (.slice Bq N.pipes.length d)) := ((Keep.refl _ _).one _).one _
  refine ⟨A, Bq, Al, c, d, cl, n, N, xs, rfl, hf, hnc, h.net.keepC hk (fun b off e q => by have := (h.bA b off e).1; omega) (fun b off e q => by have := (h.bB b off e).1; omega), ?_, hl, h.src.high (B := p + 1) (by (repeat' (first | (with_reducible exact Below.refl _ _) | (with_reducible assumption) | (with_reducible refine Below.alloc ?_ ?_ _) | (with_reducible refine Below.drew ?_) | (with_reducible refine Below.drewN' ?_ _) | (with_reducible refine Below.setCell ?_ ?_ _) | (refine Below.via ?_ (by with_reducible assumption) ?_) | (with_reducible refine Below.via ?_ (Wd.h _) ?_) | go_size))) (by omega), by have h1 := h.kp; (repeat' (first | (with_reducible exact Keep.refl _ _) | (with_reducible assumption) | (with_reducible refine Keep.alloc ?_ _) | (with_reducible refine Keep.drew ?_) | (with_reducible refine Keep.drewN ?_ _) | (refine Keep.trans ?_ (by with_reducible assumption)) | (refine Keep.via ?_ (by with_reducible assumption)) | (with_reducible refine Keep.new ?_ ?_ _) | go_size)), fun b off e => by have := (h.bA b off e).1; omega, fun b off e => by have := (h.bB b off e).1; omega, fun b off e => by have := World.ownsRow.lt h.o b (by rw [e]; rfl); omega⟩
  exact ((h.o.set_below (a := ⟨w.heap.size, 0, none⟩) (by simp; omega) (.slice A N.nodes.length c)).set_below (a := ⟨w.heap.size, 1, none⟩) (by simp; omega) (.slice Bq N.pipes.length d)).rdv.1
end
end Go.Proofs.Ytijhadafmhbceaa
namespace Go.Proofs.Ytijhadafmhbceaa
set_option linter.unusedVariables false
set_option linter.unusedSimpArgs false
open Go.RowKit
theorem cell_newF (w : World) (cs : Array Value) (t : TypeId) (n k : Nat) (v : Value) (h : n = w.heap.size) (hv : cs[k]? = some v) : (w.alloc (.cells cs t)).cell? ⟨n, k, none⟩ = some v := by subst h; simpa using hv
/-- what goes round the loop of l05DrawFlows -/
structure FW (w : World) (p : Nat) (A Bq : Option Addr) (n c m d : Nat) (u : Value) (l : List Int) (wr : World) : Prop where
  o : Own wr (w.heap.size + 1) 2 1 u l.length (l.map iV)
  src : Src wr p
  kp : Keep (· = p) w wr
  bX : Bx wr w.heap.size [.slice A n c, .slice Bq m d]
  sz : w.heap.size + 1 ≤ wr.heap.size
section
variable {w wr wr' : World} {p : Nat} {A Bq : Option Addr} {n c m d : Nat} {u u' : Value} {l l' : List Int}
theorem FW.keep (h : FW w p A Bq n c m d u l wr) (hp : p < w.heap.size) (hk : Keep (· = p) wr wr') (hs : Src wr' p) : FW w p A Bq n c m d u l wr' :=
  ⟨h.o.keepp hk (by omega), hs, h.kp.trans hk, h.bX.keep hk (by omega), Nat.le_trans h.sz hk.size⟩
theorem FW.below (h : FW w p A Bq n c m d u l wr) (hb : Below wr.heap.size wr wr') : FW w p A Bq n c m d u l wr' :=
  ⟨h.o.below hb (Nat.le_refl _), h.src.below hb, h.kp.trans (Keep.of_below _ hb), h.bX.below hb h.bX.lt, Nat.le_trans h.sz hb.size⟩
theorem FW.put (h : FW w p A Bq n c m d u l wr) (hp : p < w.heap.size) (ho : Own wr' (w.heap.size + 1) 2 1 u' l'.length (l'.map iV)) (hb : Below (w.heap.size + 1) wr wr') : FW w p A Bq n c m d u' l' wr' :=
  ⟨ho, h.src.high hb (by omega), ⟨hb.os.trans h.kp.os, hb.tape.trans h.kp.tape, hb.output.trans h.kp.output, Nat.le_trans h.kp.size hb.size, fun q h1 h2 => (hb.block q (by omega)).trans (h.kp.block q h1 h2)⟩, h.bX.below hb (by omega), Nat.le_trans h.sz hb.size⟩
end
def DrewF (w : World) (p M : Nat) (e : Ending) (w' : World) : Prop :=
  ∃ (Af : Option Addr) (cf : Nat) (l : List Int), e = .returned (.slice Af l.length cf) ∧ l.length ≤ M ∧ Rd w' Af (l.map iV) ∧ Src w' p ∧ Keep (· = p) w w' ∧ ∀ b off, Af = some ⟨b, off, none⟩ → w.heap.size < b ∧ b < w'.heap.size
theorem fw_post {w wr : World} {p M : Nat} {A Bq Af : Option Addr} {n c m d k cf : Nat} {l : List Int} (h : FW w p A Bq n c m d (.slice Af k cf) l wr) (hk : k = l.length) (hM : l.length ≤ M) : DrewF w p M (.returned (.slice Af k cf)) wr := by
  subst hk
  exact ⟨Af, cf, l, rfl, hM, h.o.rdv.1, h.src, h.kp, fun b off e => by have := World.ownsRow.lt h.o b (by rw [e]; rfl); omega⟩
set_option maxRecDepth 100000 in
set_option maxHeartbeats 8000000 in
theorem spec_l05DrawFlows (p : Nat) (A Bq : Option Addr) (n c m d : Nat) (w : World) (h : Src w p) (hm : m ≤ 1000) :
    Calls Try.prog 50 #[.pointer (some ⟨p, 0, none⟩), netV A Bq n c m d] w (DrewF w p (m + 1)) := by
  have hp := h.lt
  have HS := Lib.hid h
  clear h
  go_enter Try.func50, Try.ntmps50
  go_upto_region 2 with (fail)
  have H0 := Lib.hid (show FW w p A Bq n c m d (.slice (some ⟨w.heap.size + 1, 0, none⟩) 0 0) [] ((w.alloc (.cells #[.slice A n c, .slice Bq m d] 27)).alloc (.cells #[] 2)) from
    ⟨by simpa using Own.lit0 (w.alloc (.cells #[.slice A n c, .slice Bq m d] 27)) (w.heap.size + 1) 2 1 (by simp), HS.out.below (by (repeat' (first | (with_reducible exact Below.refl _ _) | (with_reducible assumption) | (with_reducible refine Below.alloc ?_ ?_ _) | (with_reducible refine Below.drew ?_) | (with_reducible refine Below.drewN' ?_ _) | (with_reducible refine Below.setCell ?_ ?_ _) | (refine Below.via ?_ (by with_reducible assumption) ?_) | (with_reducible refine Below.via ?_ (Wd.h _) ?_) | go_size))), Keep.of_below _ (by (repeat' (first | (with_reducible exact Below.refl _ _) | (with_reducible assumption) | (with_reducible refine Below.alloc ?_ ?_ _) | (with_reducible refine Below.drew ?_) | (with_reducible refine Below.drewN' ?_ _) | (with_reducible refine Below.setCell ?_ ?_ _) | (refine Below.via ?_ (by with_reducible assumption) ?_) | (with_reducible refine Below.via ?_ (Wd.h _) ?_) | go_size))), (show Bx (w.alloc (.cells #[.slice A n c, .slice Bq m d] 27)) w.heap.size [.slice A n c, .slice Bq m d] from bx2 (by simp) (by simp) (by simp) (by simp) (by simp)).below (Below.alloc (Below.refl _ _) (Nat.le_refl _) _) (by simp), by simp⟩)
  clear HS
  go_wp2_with fail
  go_loopw [5, 6] (fun u t wv => ∃ l : List Int, t = .int .i64 (l.length : Int) ∧ l.length ≤ m ∧ FW w p A Bq n c m d u l wv) (fun _ t _ => m - (intOf t).toNat)
  case atStart => exact ⟨[], rfl, by simp, H0.out⟩
  case round =>
    clear H0
    obtain ⟨l, rfl, hlm, hI⟩ := hrel
    have HI := Lib.hid hI
    have hsz := hI.sz
    have hbX := hI.bX
    have hy7 := hbX.lt; have cw7_0 := hbX.cell 0 rfl; have fw7_0 := hbX.frozen 0 rfl; have cw7_1 := hbX.cell 1 rfl; have fw7_1 := hbX.frozen 1 rfl
    clear hI hbX
    by_cases hlt : l.length < m
    · have g1 : (l.length : Int) < (m : Int) := by omega
      go_wp2_with fail
      refine (spec_l01Next p _ _ HI.out.src (by omega)).mono ?_
      rintro e w3 ⟨r, rfl, ra, _, rb, hs3, hk3⟩
      have rc := rb (by omega)
      have H3 := Lib.hid (HI.out.keep hp hk3 hs3)
      have hsz3 := H3.out.sz
      clear hs3 hk3 rb HI cw7_0 cw7_1 fw7_0 fw7_1 hy7
      go_wp2_with ((at_builtin; refine wp_app1x _ rfl (.tmp 15) (.tmp 19) 28 rfl (w.heap.size + 1) info_i64 Try.underlying28 rfl (by omega) (by omega) _ _ _ rfl (H3.out.o.alloc _) _ 1 1 [iV (r - 30)] rfl rfl (by intro j u hu; match j, hu with | 0, hu => (simp at hu; subst hu; first | (simp; done) | exact cell_newF _ _ _ _ _ _ (by simp) rfl) | j + 1, hu => simp at hu) (by simp [Value.oneCell']) (by omega) (by omega) (by first | omega | (simp; done) | (simp; omega)) ?_; intro v7 w7 hO7 hb7 hF7))
      have H7 := Lib.hid ((H3.out.below (Below.alloc (Below.refl _ _) (Nat.le_refl _) _)).put (l' := l ++ [r - 30]) hp (by simpa using hO7) hb7)
      clear hO7 hF7 hb7
      go_roundw
      case rel => exact ⟨l ++ [r - 30], by simp, by first | (simp; done) | (simp; omega), H7.out⟩
      case measure => first | (simp [intOf]; done) | (simp [intOf]; omega)
    · have g1 : ¬ (l.length : Int) < (m : Int) := by omega
      go_wp2_with fail
      refine (spec_l01Next p _ _ HI.out.src (by omega)).mono ?_
      rintro e w3 ⟨z, rfl, za, _, zb, hs3, hk3⟩
      have H3 := Lib.hid (HI.out.keep hp hk3 hs3)
      have hsz3 := H3.out.sz
      clear hs3 hk3 zb HI cw7_0 cw7_1 fw7_0 fw7_1 hy7
      by_cases e0 : z = 0
      · subst e0
        go_wp2_with ((at_builtin; refine wp_app1x _ rfl (.tmp 25) (.tmp 26) 28 rfl (w.heap.size + 1) info_i64 Try.underlying28 rfl (by omega) (by omega) _ _ _ rfl (H3.out.o.alloc _) _ 1 1 [iV (0)] rfl rfl (by intro j u hu; match j, hu with | 0, hu => (simp at hu; subst hu; first | (simp; done) | exact cell_newF _ _ _ _ _ _ (by simp) rfl) | j + 1, hu => simp at hu) (by simp [Value.oneCell']) (by omega) (by omega) (by first | omega | (simp; done) | (simp; omega)) ?_; intro v7 w7 hO7 hb7 hF7))
        have H7 := Lib.hid ((H3.out.below (Below.alloc (Below.refl _ _) (Nat.le_refl _) _)).put (l' := l ++ [0]) hp (by simpa using hO7) hb7)
        clear hO7 hF7 hb7
        obtain ⟨Af, cf, rfl, -, -, -⟩ := H7.out.o.val
        go_wp2
        go_ret
        exact fw_post H7.out rfl (by first | (simp; done) | (simp; omega))
      · have n0 : (z == 0) = false := by simpa using e0
        by_cases e1 : z = 1
        · subst e1
          by_cases hl0 : l.length = 0
          · have g2 : ¬ (0 : Int) < (l.length : Int) := by omega
            obtain ⟨Af, cf, rfl, -, -, -⟩ := H3.out.o.val
            clear hl0
            go_wp2
            go_ret
            exact fw_post H3.out rfl (by omega)
          · have g2 : (0 : Int) < (l.length : Int) := by omega
            have hl1 : 0 < l.length := by omega
            clear hl0
            obtain ⟨g, cf, rfl, hg, hgc, -⟩ := H3.out.o.arr hl1
            go_wp2_with fail
            refine (spec_l01Next p _ _ (H3.out.src.below (by (repeat' (first | (with_reducible exact Below.refl _ _) | (with_reducible assumption) | (with_reducible refine Below.alloc ?_ ?_ _) | (with_reducible refine Below.drew ?_) | (with_reducible refine Below.drewN' ?_ _) | (with_reducible refine Below.setCell ?_ ?_ _) | (refine Below.via ?_ (by with_reducible assumption) ?_) | (with_reducible refine Below.via ?_ (Wd.h _) ?_) | go_size)))) (by omega)).mono ?_
            rintro e w4 ⟨r, rfl, ra, _, rb, hs4, hk4⟩
            have rc := rb (by omega)
            have rn : r.toNat < 3 := by omega
            have hld := (hk4.cell w3.heap.size r.toNat (by simp) (by omega)).trans (litA3 w3 2 30000 30001 (-30000) r.toNat rn)
            have H4 := Lib.hid ((H3.out.below (Below.alloc (Below.refl _ w3) (Nat.le_refl _) _)).keep hp hk4 hs4)
            clear hs4 hk4 rb H3
            have hO5 := H4.out.o.set 0 (by simpa using hl1) (iV (pick [30000, 30001, -30000] r.toNat))
            have hAr := H4.out.o.arr hl1
            have hgc0 : ∃ y, w4.cell? ⟨g, 0, none⟩ = some y ∧ w4.frozen? ⟨g, 0, none⟩ = false := by
              obtain ⟨g', c', he, _, _, ha⟩ := hAr
              injection he with he
              injection he with he
              injection he with he1
              subst he1
              obtain ⟨y, hy⟩ := ha.some_ (j := 0) (by omega)
              exact ⟨y, hy, ha.free (by omega)⟩
            obtain ⟨y0, hy0, hf0⟩ := hgc0
            have hz4 := H4.out.sz
            have hgl : g < w4.heap.size := World.ownsRow.lt H4.out.o g rfl |>.2
            have H5 := Lib.hid (H4.out.put (l' := l.set 0 (pick [30000, 30001, -30000] r.toNat)) hp (by simpa using hO5) (by (repeat' (first | (with_reducible exact Below.refl _ _) | (with_reducible assumption) | (with_reducible refine Below.alloc ?_ ?_ _) | (with_reducible refine Below.drew ?_) | (with_reducible refine Below.drewN' ?_ _) | (with_reducible refine Below.setCell ?_ ?_ _) | (refine Below.via ?_ (by with_reducible assumption) ?_) | (with_reducible refine Below.via ?_ (Wd.h _) ?_) | go_size))))
            clear hO5 hAr
            go_wp2
            go_ret
            exact fw_post H5.out (by simp) (by first | (simp; done) | (simp; omega))
        · have n1 : (z == 1) = false := by simpa using e1
          obtain ⟨Af, cf, rfl, -, -, -⟩ := H3.out.o.val
          clear e0 e1
          go_wp2
          go_ret
          exact fw_post H3.out rfl (by omega)
end Go.Proofs.Ytijhadafmhbceaa
namespace Go.Proofs.Ytijhadafmhbceaa
set_option linter.unusedVariables false
set_option linter.unusedSimpArgs false
open Go.RowKit
structure Q4 (w : World) (p X base : Nat) (A Bq : Option Addr) (c d : Nat) (N : Net) (u1 u2 u3 u4 : Value) (l1 l2 l3 l4 : List Int) (wr : World) : Prop where
  o1 : Own wr base 2 1 u1 l1.length (l1.map iV)
  o2 : Own wr base 2 1 u2 l2.length (l2.map iV)
  o3 : Own wr base 2 1 u3 l3.length (l3.map iV)
  o4 : Own wr base 2 1 u4 l4.length (l4.map iV)
  a12 : Apart u1 u2
  a13 : Apart u1 u3
  a14 : Apart u1 u4
  a23 : Apart u2 u3
  a24 : Apart u2 u4
  a34 : Apart u3 u4
  pp : Own wr (w.heap.size + 3) 90 5 (.slice Bq N.pipes.length d) N.pipes.length (N.pipes.flatMap Pp.cells)
  ap : ∀ q off, A = some ⟨q, off, none⟩ → ∀ q' off', Bq = some ⟨q', off', none⟩ → q ≠ q'
  net : NetAt wr A Bq N
  bA : ∀ b off, A = some ⟨b, off, none⟩ → w.heap.size + 2 < b ∧ b < X
  bB : ∀ b off, Bq = some ⟨b, off, none⟩ → w.heap.size + 2 < b ∧ b < X
  src : Src wr p
  kp : Keep (· = p) w wr
  b0 : Bx wr w.heap.size [.slice none 0 0, .slice none 0 0]
  b1 : Bx wr (w.heap.size + 1) [.slice none 0 0, .slice none 0 0, .slice none 0 0]
  b2 : Bx wr (w.heap.size + 2) [.slice none 0 0, .slice none 0 0]
  bX : Bx wr X [.slice A N.nodes.length c, .slice Bq N.pipes.length d]
  sX : w.heap.size + 2 < X ∧ X < base
  sz : base ≤ wr.heap.size
section
variable {w wr wr' : World} {p X base : Nat} {A Bq : Option Addr} {c d : Nat} {N : Net} {u1 u2 u3 u4 u' : Value} {l1 l2 l3 l4 l' : List Int}
theorem Q4.keep (h : Q4 w p X base A Bq c d N u1 u2 u3 u4 l1 l2 l3 l4 wr) (hp : p < w.heap.size) (hk : Keep (· = p) wr wr') (hs : Src wr' p) : Q4 w p X base A Bq c d N u1 u2 u3 u4 l1 l2 l3 l4 wr' := by
  have hX := h.sX
  exact ⟨h.o1.keepp hk (by omega), h.o2.keepp hk (by omega), h.o3.keepp hk (by omega), h.o4.keepp hk (by omega), h.a12, h.a13, h.a14, h.a23, h.a24, h.a34, h.pp.keepp hk (by omega), h.ap, h.net.keepC hk (fun b off e q => by have := (h.bA b off e).1; omega) (fun b off e q => by have := (h.bB b off e).1; omega), h.bA, h.bB, hs, h.kp.trans hk, h.b0.keep hk (by omega), h.b1.keep hk (by omega), h.b2.keep hk (by omega), h.bX.keep hk (by omega), h.sX, Nat.le_trans h.sz hk.size⟩
theorem Q4.below (h : Q4 w p X base A Bq c d N u1 u2 u3 u4 l1 l2 l3 l4 wr) (hb : Below wr.heap.size wr wr') : Q4 w p X base A Bq c d N u1 u2 u3 u4 l1 l2 l3 l4 wr' :=
  ⟨h.o1.below hb (Nat.le_refl _), h.o2.below hb (Nat.le_refl _), h.o3.below hb (Nat.le_refl _), h.o4.below hb (Nat.le_refl _), h.a12, h.a13, h.a14, h.a23, h.a24, h.a34, h.pp.below hb (Nat.le_refl _), h.ap, h.net.below hb, h.bA, h.bB, h.src.below hb, h.kp.trans (Keep.of_below _ hb), h.b0.below hb h.b0.lt, h.b1.below hb h.b1.lt, h.b2.below hb h.b2.lt, h.bX.below hb h.bX.lt, h.sX, Nat.le_trans h.sz hb.size⟩
/-- list 1 is added to -/
theorem Q4.app1 (h : Q4 w p X base A Bq c d N u1 u2 u3 u4 l1 l2 l3 l4 wr) (hp : p < w.heap.size) (ho : Own wr' base 2 1 u' l'.length (l'.map iV)) (hb : Below base wr wr') (hf : Far wr wr' u1 u') : Q4 w p X base A Bq c d N u' u2 u3 u4 l' l2 l3 l4 wr' := by
  have hX := h.sX
  have hk : Keep (fun k => base ≤ k) wr wr' := ⟨hb.os, hb.tape, hb.output, hb.size, fun k _ h2 => hb.block k (by omega)⟩
  have hpp : Own wr' (w.heap.size + 3) 90 5 (.slice Bq N.pipes.length d) N.pipes.length (N.pipes.flatMap Pp.cells) := by
    refine ⟨h.pp.1, ?_⟩
    rcases h.pp.2 with h0 | ⟨g, cap, cur, hv, hg, hh, r⟩
    · exact .inl h0
    · have hgB : g < X := (h.bB g 0 (by injection hv)).2
      have hlt : g < wr.heap.size := by have := h.bX.lt; omega
      exact .inr ⟨g, cap, cur, hv, hg, (by rw [hb.block g (by omega)]; exact hh), r⟩
  exact ⟨ho, hf.own h.o2 h.a12, hf.own h.o3 h.a13, hf.own h.o4 h.a14, hf.apart h.o2 h.a12, hf.apart h.o3 h.a13, hf.apart h.o4 h.a14, h.a23, h.a24, h.a34, hpp, h.ap, h.net.keepC hk (fun b off e q => by have := (h.bA b off e).2; omega) (fun b off e q => by have := (h.bB b off e).2; omega), h.bA, h.bB, h.src.high hb (by omega), ⟨hb.os.trans h.kp.os, hb.tape.trans h.kp.tape, hb.output.trans h.kp.output, Nat.le_trans h.kp.size hb.size, fun q h1 h2 => (hb.block q (by omega)).trans (h.kp.block q h1 h2)⟩, h.b0.below hb (by omega), h.b1.below hb (by omega), h.b2.below hb (by omega), h.bX.below hb hX.2, h.sX, Nat.le_trans h.sz hb.size⟩
/-- an element of list 1 is written -/
theorem Q4.set1 {g cc : Nat} (h : Q4 w p X base A Bq c d N u1 u2 u3 u4 l1 l2 l3 l4 wr) (hp : p < w.heap.size) (hu : u1 = .slice (some ⟨g, 0, none⟩) l1.length cc) (j : Nat) (hj : j < l1.length) (y : Int) : Q4 w p X base A Bq c d N (.slice (some ⟨g, 0, none⟩) l1.length cc) u2 u3 u4 (l1.set j y) l2 l3 l4 (wr.setCell ⟨g, j, none⟩ (iV y)) := by
  subst hu
  have hX := h.sX
  have hg : base ≤ g := by
    obtain ⟨g', c', hv, hg, _⟩ := h.o1.arr (by omega)
    injection hv with hv; injection hv with hv; injection hv with hv; omega
  have hkp : Keep (· = g) wr (wr.setCell ⟨g, j, none⟩ (iV y)) := (Keep.refl _ _).one _
  have hb : Below base wr (wr.setCell ⟨g, j, none⟩ (iV y)) := ⟨hkp.os, hkp.tape, hkp.output, hkp.size, fun q hq => by
    rcases Nat.lt_or_ge q wr.heap.size with h1 | h1
    · exact hkp.block q h1 (by omega)
    · rw [Array.getElem?_eq_none h1, Array.getElem?_eq_none (by simpa [World.setCell] using h1)]⟩
  have ho : Own (wr.setCell ⟨g, j, none⟩ (iV y)) base 2 1 (.slice (some ⟨g, 0, none⟩) l1.length cc) (l1.set j y).length ((l1.set j y).map iV) := by
    have := h.o1.set j (by simpa using hj) (iV y)
    rw [← List.map_set] at this
    simpa using this
  have hl : (l1.set j y).length = l1.length := by simp
  have hk : Keep (fun k => base ≤ k) wr (wr.setCell ⟨g, j, none⟩ (iV y)) := ⟨hb.os, hb.tape, hb.output, hb.size, fun k _ h2 => hb.block k (by omega)⟩
  have hpp : Own (wr.setCell ⟨g, j, none⟩ (iV y)) (w.heap.size + 3) 90 5 (.slice Bq N.pipes.length d) N.pipes.length (N.pipes.flatMap Pp.cells) := by
    refine ⟨h.pp.1, ?_⟩
    rcases h.pp.2 with h0 | ⟨g2, cap, cur, hv, hg2, hh, r⟩
    · exact .inl h0
    · have hgB : g2 < X := (h.bB g2 0 (by injection hv)).2
      exact .inr ⟨g2, cap, cur, hv, hg2, (by rw [hb.block g2 (by omega)]; exact hh), r⟩
  exact ⟨ho, h.o2.keepg hkp (fun e => h.a12 g rfl e), h.o3.keepg hkp (fun e => h.a13 g rfl e), h.o4.keepg hkp (fun e => h.a14 g rfl e), h.a12, h.a13, h.a14, h.a23, h.a24, h.a34, hpp, h.ap, h.net.keepC hk (fun b off e q => by have := (h.bA b off e).2; omega) (fun b off e q => by have := (h.bB b off e).2; omega), h.bA, h.bB, h.src.high hb (by omega), ⟨hb.os.trans h.kp.os, hb.tape.trans h.kp.tape, hb.output.trans h.kp.output, Nat.le_trans h.kp.size hb.size, fun q h1 h2 => (hb.block q (by omega)).trans (h.kp.block q h1 h2)⟩, h.b0.below hb (by omega), h.b1.below hb (by omega), h.b2.below hb (by omega), h.bX.below hb hX.2, h.sX, Nat.le_trans h.sz hb.size⟩
/-- list 2 is added to -/
theorem Q4.app2 (h : Q4 w p X base A Bq c d N u1 u2 u3 u4 l1 l2 l3 l4 wr) (hp : p < w.heap.size) (ho : Own wr' base 2 1 u' l'.length (l'.map iV)) (hb : Below base wr wr') (hf : Far wr wr' u2 u') : Q4 w p X base A Bq c d N u1 u' u3 u4 l1 l' l3 l4 wr' := by
  have hX := h.sX
  have hk : Keep (fun k => base ≤ k) wr wr' := ⟨hb.os, hb.tape, hb.output, hb.size, fun k _ h2 => hb.block k (by omega)⟩
  have hpp : Own wr' (w.heap.size + 3) 90 5 (.slice Bq N.pipes.length d) N.pipes.length (N.pipes.flatMap Pp.cells) := by
    refine ⟨h.pp.1, ?_⟩
    rcases h.pp.2 with h0 | ⟨g, cap, cur, hv, hg, hh, r⟩
    · exact .inl h0
    · have hgB : g < X := (h.bB g 0 (by injection hv)).2
      have hlt : g < wr.heap.size := by have := h.bX.lt; omega
      exact .inr ⟨g, cap, cur, hv, hg, (by rw [hb.block g (by omega)]; exact hh), r⟩
  exact ⟨hf.own h.o1 h.a12.symm, ho, hf.own h.o3 h.a23, hf.own h.o4 h.a24, (hf.apart h.o1 h.a12.symm).symm, h.a13, h.a14, hf.apart h.o3 h.a23, hf.apart h.o4 h.a24, h.a34, hpp, h.ap, h.net.keepC hk (fun b off e q => by have := (h.bA b off e).2; omega) (fun b off e q => by have := (h.bB b off e).2; omega), h.bA, h.bB, h.src.high hb (by omega), ⟨hb.os.trans h.kp.os, hb.tape.trans h.kp.tape, hb.output.trans h.kp.output, Nat.le_trans h.kp.size hb.size, fun q h1 h2 => (hb.block q (by omega)).trans (h.kp.block q h1 h2)⟩, h.b0.below hb (by omega), h.b1.below hb (by omega), h.b2.below hb (by omega), h.bX.below hb hX.2, h.sX, Nat.le_trans h.sz hb.size⟩
/-- an element of list 2 is written -/
theorem Q4.set2 {g cc : Nat} (h : Q4 w p X base A Bq c d N u1 u2 u3 u4 l1 l2 l3 l4 wr) (hp : p < w.heap.size) (hu : u2 = .slice (some ⟨g, 0, none⟩) l2.length cc) (j : Nat) (hj : j < l2.length) (y : Int) : Q4 w p X base A Bq c d N u1 (.slice (some ⟨g, 0, none⟩) l2.length cc) u3 u4 l1 (l2.set j y) l3 l4 (wr.setCell ⟨g, j, none⟩ (iV y)) := by
  subst hu
  have hX := h.sX
  have hg : base ≤ g := by
    obtain ⟨g', c', hv, hg, _⟩ := h.o2.arr (by omega)
    injection hv with hv; injection hv with hv; injection hv with hv; omega
  have hkp : Keep (· = g) wr (wr.setCell ⟨g, j, none⟩ (iV y)) := (Keep.refl _ _).one _
  have hb : Below base wr (wr.setCell ⟨g, j, none⟩ (iV y)) := ⟨hkp.os, hkp.tape, hkp.output, hkp.size, fun q hq => by
    rcases Nat.lt_or_ge q wr.heap.size with h1 | h1
    · exact hkp.block q h1 (by omega)
    · rw [Array.getElem?_eq_none h1, Array.getElem?_eq_none (by simpa [World.setCell] using h1)]⟩
  have ho : Own (wr.setCell ⟨g, j, none⟩ (iV y)) base 2 1 (.slice (some ⟨g, 0, none⟩) l2.length cc) (l2.set j y).length ((l2.set j y).map iV) := by
    have := h.o2.set j (by simpa using hj) (iV y)
    rw [← List.map_set] at this
    simpa using this
  have hl : (l2.set j y).length = l2.length := by simp
  have hk : Keep (fun k => base ≤ k) wr (wr.setCell ⟨g, j, none⟩ (iV y)) := ⟨hb.os, hb.tape, hb.output, hb.size, fun k _ h2 => hb.block k (by omega)⟩
  have hpp : Own (wr.setCell ⟨g, j, none⟩ (iV y)) (w.heap.size + 3) 90 5 (.slice Bq N.pipes.length d) N.pipes.length (N.pipes.flatMap Pp.cells) := by
    refine ⟨h.pp.1, ?_⟩
    rcases h.pp.2 with h0 | ⟨g2, cap, cur, hv, hg2, hh, r⟩
    · exact .inl h0
    · have hgB : g2 < X := (h.bB g2 0 (by injection hv)).2
      exact .inr ⟨g2, cap, cur, hv, hg2, (by rw [hb.block g2 (by omega)]; exact hh), r⟩
  exact ⟨h.o1.keepg hkp (fun e => h.a12 g e rfl), ho, h.o3.keepg hkp (fun e => h.a23 g rfl e), h.o4.keepg hkp (fun e => h.a24 g rfl e), h.a12, h.a13, h.a14, h.a23, h.a24, h.a34, hpp, h.ap, h.net.keepC hk (fun b off e q => by have := (h.bA b off e).2; omega) (fun b off e q => by have := (h.bB b off e).2; omega), h.bA, h.bB, h.src.high hb (by omega), ⟨hb.os.trans h.kp.os, hb.tape.trans h.kp.tape, hb.output.trans h.kp.output, Nat.le_trans h.kp.size hb.size, fun q h1 h2 => (hb.block q (by omega)).trans (h.kp.block q h1 h2)⟩, h.b0.below hb (by omega), h.b1.below hb (by omega), h.b2.below hb (by omega), h.bX.below hb hX.2, h.sX, Nat.le_trans h.sz hb.size⟩
/-- list 3 is added to -/
theorem Q4.app3 (h : Q4 w p X base A Bq c d N u1 u2 u3 u4 l1 l2 l3 l4 wr) (hp : p < w.heap.size) (ho : Own wr' base 2 1 u' l'.length (l'.map iV)) (hb : Below base wr wr') (hf : Far wr wr' u3 u') : Q4 w p X base A Bq c d N u1 u2 u' u4 l1 l2 l' l4 wr' := by
  have hX := h.sX
  have hk : Keep (fun k => base ≤ k) wr wr' := ⟨hb.os, hb.tape, hb.output, hb.size, fun k _ h2 => hb.block k (by omega)⟩
  have hpp : Own wr' (w.heap.size + 3) 90 5 (.slice Bq N.pipes.length d) N.pipes.length (N.pipes.flatMap Pp.cells) := by
    refine ⟨h.pp.1, ?_⟩
    rcases h.pp.2 with h0 | ⟨g, cap, cur, hv, hg, hh, r⟩
    · exact .inl h0
    · have hgB : g < X := (h.bB g 0 (by injection hv)).2
      have hlt : g < wr.heap.size := by have := h.bX.lt; omega
      exact .inr ⟨g, cap, cur, hv, hg, (by rw [hb.block g (by omega)]; exact hh), r⟩
  exact ⟨hf.own h.o1 h.a13.symm, hf.own h.o2 h.a23.symm, ho, hf.own h.o4 h.a34, h.a12, (hf.apart h.o1 h.a13.symm).symm, h.a14, (hf.apart h.o2 h.a23.symm).symm, h.a24, hf.apart h.o4 h.a34, hpp, h.ap, h.net.keepC hk (fun b off e q => by have := (h.bA b off e).2; omega) (fun b off e q => by have := (h.bB b off e).2; omega), h.bA, h.bB, h.src.high hb (by omega), ⟨hb.os.trans h.kp.os, hb.tape.trans h.kp.tape, hb.output.trans h.kp.output, Nat.le_trans h.kp.size hb.size, fun q h1 h2 => (hb.block q (by omega)).trans (h.kp.block q h1 h2)⟩, h.b0.below hb (by omega), h.b1.below hb (by omega), h.b2.below hb (by omega), h.bX.below hb hX.2, h.sX, Nat.le_trans h.sz hb.size⟩
/-- an element of list 3 is written -/
theorem Q4.set3 {g cc : Nat} (h : Q4 w p X base A Bq c d N u1 u2 u3 u4 l1 l2 l3 l4 wr) (hp : p < w.heap.size) (hu : u3 = .slice (some ⟨g, 0, none⟩) l3.length cc) (j : Nat) (hj : j < l3.length) (y : Int) : Q4 w p X base A Bq c d N u1 u2 (.slice (some ⟨g, 0, none⟩) l3.length cc) u4 l1 l2 (l3.set j y) l4 (wr.setCell ⟨g, j, none⟩ (iV y)) := by
  subst hu
  have hX := h.sX
  have hg : base ≤ g := by
    obtain ⟨g', c', hv, hg, _⟩ := h.o3.arr (by omega)
    injection hv with hv; injection hv with hv; injection hv with hv; omega
  have hkp : Keep (· = g) wr (wr.setCell ⟨g, j, none⟩ (iV y)) := (Keep.refl _ _).one _
  have hb : Below base wr (wr.setCell ⟨g, j, none⟩ (iV y)) := ⟨hkp.os, hkp.tape, hkp.output, hkp.size, fun q hq => by
    rcases Nat.lt_or_ge q wr.heap.size with h1 | h1
    · exact hkp.block q h1 (by omega)
    · rw [Array.getElem?_eq_none h1, Array.getElem?_eq_none (by simpa [World.setCell] using h1)]⟩
  have ho : Own (wr.setCell ⟨g, j, none⟩ (iV y)) base 2 1 (.slice (some ⟨g, 0, none⟩) l3.length cc) (l3.set j y).length ((l3.set j y).map iV) := by
    have := h.o3.set j (by simpa using hj) (iV y)
    rw [← List.map_set] at this
    simpa using this
  have hl : (l3.set j y).length = l3.length := by simp
  have hk : Keep (fun k => base ≤ k) wr (wr.setCell ⟨g, j, none⟩ (iV y)) := ⟨hb.os, hb.tape, hb.output, hb.size, fun k _ h2 => hb.block k (by omega)⟩
  have hpp : Own (wr.setCell ⟨g, j, none⟩ (iV y)) (w.heap.size + 3) 90 5 (.slice Bq N.pipes.length d) N.pipes.length (N.pipes.flatMap Pp.cells) := by
    refine ⟨h.pp.1, ?_⟩
    rcases h.pp.2 with h0 | ⟨g2, cap, cur, hv, hg2, hh, r⟩
    · exact .inl h0
    · have hgB : g2 < X := (h.bB g2 0 (by injection hv)).2
      exact .inr ⟨g2, cap, cur, hv, hg2, (by rw [hb.block g2 (by omega)]; exact hh), r⟩
  exact ⟨h.o1.keepg hkp (fun e => h.a13 g e rfl), h.o2.keepg hkp (fun e => h.a23 g e rfl), ho, h.o4.keepg hkp (fun e => h.a34 g rfl e), h.a12, h.a13, h.a14, h.a23, h.a24, h.a34, hpp, h.ap, h.net.keepC hk (fun b off e q => by have := (h.bA b off e).2; omega) (fun b off e q => by have := (h.bB b off e).2; omega), h.bA, h.bB, h.src.high hb (by omega), ⟨hb.os.trans h.kp.os, hb.tape.trans h.kp.tape, hb.output.trans h.kp.output, Nat.le_trans h.kp.size hb.size, fun q h1 h2 => (hb.block q (by omega)).trans (h.kp.block q h1 h2)⟩, h.b0.below hb (by omega), h.b1.below hb (by omega), h.b2.below hb (by omega), h.bX.below hb hX.2, h.sX, Nat.le_trans h.sz hb.size⟩
/-- list 4 is added to -/
theorem Q4.app4 (h : Q4 w p X base A Bq c d N u1 u2 u3 u4 l1 l2 l3 l4 wr) (hp : p < w.heap.size) (ho : Own wr' base 2 1 u' l'.length (l'.map iV)) (hb : Below base wr wr') (hf : Far wr wr' u4 u') : Q4 w p X base A Bq c d N u1 u2 u3 u' l1 l2 l3 l' wr' := by
  have hX := h.sX
  have hk : Keep (fun k => base ≤ k) wr wr' := ⟨hb.os, hb.tape, hb.output, hb.size, fun k _ h2 => hb.block k (by omega)⟩
  have hpp : Own wr' (w.heap.size + 3) 90 5 (.slice Bq N.pipes.length d) N.pipes.length (N.pipes.flatMap Pp.cells) := by
    refine ⟨h.pp.1, ?_⟩
    rcases h.pp.2 with h0 | ⟨g, cap, cur, hv, hg, hh, r⟩
    · exact .inl h0
    · have hgB : g < X := (h.bB g 0 (by injection hv)).2
      have hlt : g < wr.heap.size := by have := h.bX.lt; omega
      exact .inr ⟨g, cap, cur, hv, hg, (by rw [hb.block g (by omega)]; exact hh), r⟩
  exact ⟨hf.own h.o1 h.a14.symm, hf.own h.o2 h.a24.symm, hf.own h.o3 h.a34.symm, ho, h.a12, h.a13, (hf.apart h.o1 h.a14.symm).symm, h.a23, (hf.apart h.o2 h.a24.symm).symm, (hf.apart h.o3 h.a34.symm).symm, hpp, h.ap, h.net.keepC hk (fun b off e q => by have := (h.bA b off e).2; omega) (fun b off e q => by have := (h.bB b off e).2; omega), h.bA, h.bB, h.src.high hb (by omega), ⟨hb.os.trans h.kp.os, hb.tape.trans h.kp.tape, hb.output.trans h.kp.output, Nat.le_trans h.kp.size hb.size, fun q h1 h2 => (hb.block q (by omega)).trans (h.kp.block q h1 h2)⟩, h.b0.below hb (by omega), h.b1.below hb (by omega), h.b2.below hb (by omega), h.bX.below hb hX.2, h.sX, Nat.le_trans h.sz hb.size⟩
/-- an element of list 4 is written -/
theorem Q4.set4 {g cc : Nat} (h : Q4 w p X base A Bq c d N u1 u2 u3 u4 l1 l2 l3 l4 wr) (hp : p < w.heap.size) (hu : u4 = .slice (some ⟨g, 0, none⟩) l4.length cc) (j : Nat) (hj : j < l4.length) (y : Int) : Q4 w p X base A Bq c d N u1 u2 u3 (.slice (some ⟨g, 0, none⟩) l4.length cc) l1 l2 l3 (l4.set j y) (wr.setCell ⟨g, j, none⟩ (iV y)) := by
  subst hu
  have hX := h.sX
  have hg : base ≤ g := by
    obtain ⟨g', c', hv, hg, _⟩ := h.o4.arr (by omega)
    injection hv with hv; injection hv with hv; injection hv with hv; omega
  have hkp : Keep (· = g) wr (wr.setCell ⟨g, j, none⟩ (iV y)) := (Keep.refl _ _).one _
  have hb : Below base wr (wr.setCell ⟨g, j, none⟩ (iV y)) := ⟨hkp.os, hkp.tape, hkp.output, hkp.size, fun q hq => by
    rcases Nat.lt_or_ge q wr.heap.size with h1 | h1
    · exact hkp.block q h1 (by omega)
    · rw [Array.getElem?_eq_none h1, Array.getElem?_eq_none (by simpa [World.setCell] using h1)]⟩
  have ho : Own (wr.setCell ⟨g, j, none⟩ (iV y)) base 2 1 (.slice (some ⟨g, 0, none⟩) l4.length cc) (l4.set j y).length ((l4.set j y).map iV) := by
    have := h.o4.set j (by simpa using hj) (iV y)
    rw [← List.map_set] at this
    simpa using this
  have hl : (l4.set j y).length = l4.length := by simp
  have hk : Keep (fun k => base ≤ k) wr (wr.setCell ⟨g, j, none⟩ (iV y)) := ⟨hb.os, hb.tape, hb.output, hb.size, fun k _ h2 => hb.block k (by omega)⟩
  have hpp : Own (wr.setCell ⟨g, j, none⟩ (iV y)) (w.heap.size + 3) 90 5 (.slice Bq N.pipes.length d) N.pipes.length (N.pipes.flatMap Pp.cells) := by
    refine ⟨h.pp.1, ?_⟩
    rcases h.pp.2 with h0 | ⟨g2, cap, cur, hv, hg2, hh, r⟩
    · exact .inl h0
    · have hgB : g2 < X := (h.bB g2 0 (by injection hv)).2
      exact .inr ⟨g2, cap, cur, hv, hg2, (by rw [hb.block g2 (by omega)]; exact hh), r⟩
  exact ⟨h.o1.keepg hkp (fun e => h.a14 g e rfl), h.o2.keepg hkp (fun e => h.a24 g e rfl), h.o3.keepg hkp (fun e => h.a34 g e rfl), ho, h.a12, h.a13, h.a14, h.a23, h.a24, h.a34, hpp, h.ap, h.net.keepC hk (fun b off e q => by have := (h.bA b off e).2; omega) (fun b off e q => by have := (h.bB b off e).2; omega), h.bA, h.bB, h.src.high hb (by omega), ⟨hb.os.trans h.kp.os, hb.tape.trans h.kp.tape, hb.output.trans h.kp.output, Nat.le_trans h.kp.size hb.size, fun q h1 h2 => (hb.block q (by omega)).trans (h.kp.block q h1 h2)⟩, h.b0.below hb (by omega), h.b1.below hb (by omega), h.b2.below hb (by omega), h.bX.below hb hX.2, h.sX, Nat.le_trans h.sz hb.size⟩
/-- a field of a pipe is written -/
theorem Q4.setP {g k o : Nat} {x x' : Pp} {u : Value} (h : Q4 w p X base A (some ⟨g, 0, none⟩) c d N u1 u2 u3 u4 l1 l2 l3 l4 wr) (hp : p < w.heap.size) (hx : N.pipes[k]? = some x) (ho : o < 5) (hx' : x'.cells = x.cells.set o u) : Q4 w p X base A (some ⟨g, 0, none⟩) c d ⟨N.nodes, N.pipes.set k x'⟩ u1 u2 u3 u4 l1 l2 l3 l4 (wr.setCell ⟨g, k * 5 + o, none⟩ u) := by
  have hX := h.sX
  have hg := h.bB g 0 rfl
  have hkp : Keep (· = g) wr (wr.setCell ⟨g, k * 5 + o, none⟩ u) := (Keep.refl _ _).one _
  have hlt := (List.getElem?_eq_some_iff.1 hx).1
  have hl : (N.pipes.set k x').length = N.pipes.length := by simp
  have hpp : Own (wr.setCell ⟨g, k * 5 + o, none⟩ u) (w.heap.size + 3) 90 5 (.slice (some ⟨g, 0, none⟩) N.pipes.length d) N.pipes.length ((N.pipes.set k x').flatMap Pp.cells) := by
    have := h.pp.set (k * 5 + o) (by rw [flat_len Pp.len]; omega) u
    have e := flat_set Pp.len N.pipes k o x x' u hx ho hx'
    rw [Nat.mul_comm 5 k] at e
    rw [e] at this
    exact this
  have hng : ∀ v l, Own wr base 2 1 v (List.length l) (l.map iV) → v.ownBlock ≠ some g := fun v l hv => hv.ne (Or.inl (by omega))
  refine ⟨h.o1.keepg hkp (hng _ _ h.o1), h.o2.keepg hkp (hng _ _ h.o2), h.o3.keepg hkp (hng _ _ h.o3), h.o4.keepg hkp (hng _ _ h.o4), h.a12, h.a13, h.a14, h.a23, h.a24, h.a34, (by rw [hl]; exact hpp), h.ap, ?_, h.bA, h.bB, ?_, ?_, h.b0.keep hkp (by omega), h.b1.keep hkp (by omega), h.b2.keep hkp (by omega), (by rw [hl]; exact h.bX.keep hkp (by omega)), h.sX, Nat.le_trans h.sz hkp.size⟩
  · have hr := h.net
    exact ⟨hr.nodes.keep hkp (fun b off e q => h.ap b off e g 0 rfl q), hpp.rdv.1, hr.ln, by dsimp only; rw [hl]; exact hr.lp, hr.nm⟩
  · exact h.src.high (B := p + 1) (by (repeat' (first | (with_reducible exact Below.refl _ _) | (with_reducible assumption) | (with_reducible refine Below.alloc ?_ ?_ _) | (with_reducible refine Below.drew ?_) | (with_reducible refine Below.drewN' ?_ _) | (with_reducible refine Below.setCell ?_ ?_ _) | (refine Below.via ?_ (by with_reducible assumption) ?_) | (with_reducible refine Below.via ?_ (Wd.h _) ?_) | go_size))) (by omega)
  · have h1 := h.kp
    (repeat' (first | (with_reducible exact Keep.refl _ _) | (with_reducible assumption) | (with_reducible refine Keep.alloc ?_ _) | (with_reducible refine Keep.drew ?_) | (with_reducible refine Keep.drewN ?_ _) | (refine Keep.trans ?_ (by with_reducible assumption)) | (refine Keep.via ?_ (by with_reducible assumption)) | (with_reducible refine Keep.new ?_ ?_ _) | go_size))
end
end Go.Proofs.Ytijhadafmhbceaa
namespace Go.Proofs.Ytijhadafmhbceaa
set_option linter.unusedVariables false
set_option linter.unusedSimpArgs false
open Go.RowKit
structure WAp (p base kc kl ka : Nat) (bd : Int) (u : Value) (n : Nat) (xs : List Value) (F : Int → Int) (w0 : World) (L : Nat → Bool) (ρ : Zr) (w : World) : Prop where
  dr : L kc = true → 0 ≤ ρ.r kc ∧ ρ.r kc < bd
  a : L ka = false → Keep (· = p) w0 w ∧ Src w p
  li : L ka = false → L kl = true → w0.heap.size ≤ ρ.b kl ∧ Bx w (ρ.b kl) [iV (F (ρ.r kc))]
  b : L ka = true → ∃ w1, Keep (· = p) w0 w1 ∧ Src w1 p ∧ Own w base 2 1 ρ.v (n + 1) (xs ++ [iV (F (ρ.r kc))]) ∧ Below base w1 w ∧ Far w1 w u ρ.v
section
variable {p base kc kl ka n : Nat} {bd : Int} {u : Value} {xs : List Value} {F : Int → Int} {w0 w w' : World} {L : Nat → Bool} {ρ : Zr}
theorem WAp.start (hk : Keep (· = p) w0 w) (hs : Src w p) : WAp p base kc kl ka bd u n xs F w0 (fun _ => false) ρ w :=
  ⟨(fun h => by cases h), fun _ => ⟨hk, hs⟩, (fun _ h => by cases h), (fun h => by cases h)⟩
theorem WAp.pure (h : WAp p base kc kl ka bd u n xs F w0 L ρ w) {i : Nat} (h1 : kc ≠ i) (h2 : kl ≠ i) (h3 : ka ≠ i) : WAp p base kc kl ka bd u n xs F w0 (upd L i) ρ w :=
  ⟨by rw [upd_ne h1]; exact h.dr, by rw [upd_ne h3]; exact h.a, by rw [upd_ne h2, upd_ne h3]; exact h.li, by rw [upd_ne h3]; exact h.b⟩
theorem WAp.call (h : WAp p base kc kl ka bd u n xs F w0 L ρ w) (h1 : kl ≠ kc) (h2 : ka ≠ kc) (n1 : L kl = false) (n2 : L ka = false) (hk : Keep (· = p) w w') (hs : Src w' p) {r : Int} (r0 : 0 ≤ r) (r1 : r < bd) : WAp p base kc kl ka bd u n xs F w0 (upd L kc) (ρ.drawn kc r) w' :=
  ⟨fun _ => by simp only [Zr.drawn, if_true]; exact ⟨r0, r1⟩, fun _ => ⟨(h.a n2).1.trans hk, hs⟩, (by rw [upd_ne h1, n1]; intro _ z; cases z), (by rw [upd_ne h2, n2]; intro z; cases z)⟩
theorem WAp.made (h : WAp p base kc kl ka bd u n xs F w0 L ρ w) {l : List Int} (h1 : kc ≠ kl) (h2 : ka ≠ kl) (n2 : L ka = false) (hb : Below w.heap.size w w') (hx : Bx w' w.heap.size [iV (F (ρ.r kc))]) : WAp p base kc kl ka bd u n xs F w0 (upd L kl) (ρ.made kl w.heap.size l) w' := by
  have ha := h.a n2
  have hz := ha.1.size
  refine ⟨by rw [upd_ne h1]; exact h.dr, fun _ => ⟨ha.1.trans (Keep.of_below _ hb), ha.2.below hb⟩, fun _ _ => ?_, (by rw [upd_ne h2, n2]; intro z; cases z)⟩
  simp only [Zr.made, if_true]
  exact ⟨hz, hx⟩
theorem WAp.app (h : WAp p base kc kl ka bd u n xs F w0 L ρ w) (h1 : kc ≠ ka) (h2 : kl ≠ ka) (n2 : L ka = false) {v' : Value} (ho : Own w' base 2 1 v' (n + 1) (xs ++ [iV (F (ρ.r kc))])) (hb : Below base w w') (hf : Far w w' u v') : WAp p base kc kl ka bd u n xs F w0 (upd L ka) ⟨ρ.b, ρ.r, ρ.c, v'⟩ w' := by
  have ha := h.a n2
  exact ⟨by rw [upd_ne h1]; exact h.dr, (by rw [upd_self]; intro z; cases z), (by rw [upd_self]; intro z; cases z), fun _ => ⟨w, ha.1, ha.2, ho, hb, hf⟩⟩
end
/-- a drawn region whose one write is told by what holds before and behind it -/
structure WSt (ks : Nat) (T0 T1 : World → Prop) (L : Nat → Bool) (ρ : Zr) (w : World) : Prop where
  t0 : L ks = false → T0 w
  t1 : L ks = true → T1 w
theorem WSt.start {ks : Nat} {T0 T1 : World → Prop} {ρ : Zr} {w : World} (h : T0 w) : WSt ks T0 T1 (fun _ => false) ρ w := ⟨fun _ => h, fun h => by cases h⟩
theorem WSt.pure {ks : Nat} {T0 T1 : World → Prop} {L : Nat → Bool} {ρ : Zr} {w : World} (h : WSt ks T0 T1 L ρ w) {i : Nat} (hi : ks ≠ i) : WSt ks T0 T1 (upd L i) ρ w := ⟨by rw [upd_ne hi]; exact h.t0, by rw [upd_ne hi]; exact h.t1⟩
theorem WSt.store {ks : Nat} {T0 T1 : World → Prop} {L : Nat → Bool} {ρ : Zr} {w' : World} (ht : T1 w') : WSt ks T0 T1 (upd L ks) ρ w' := ⟨(by rw [upd_self]; intro z; cases z), fun _ => ht⟩
/-- a drawn region with three results' boxes, written by k1, k2, k3, and a call (kc) ahead of them that makes a list -/
structure WW3 (p a k1 k2 k3 kc : Nat) (c1 c2 : List Value) (c3 : Value → List Value) (M : Nat) (w0 : World) (L : Nat → Bool) (ρ : Zr) (w : World) : Prop where
  kp : Keep (fun k => k = p ∨ k = a ∨ k = a + 1 ∨ k = a + 2) w0 w
  sr : Src w p
  s1 : L k1 = false → Bx w a [.slice none 0 0, .slice none 0 0]
  t1 : L k1 = true → Bx w a c1
  s2 : L k2 = false → Bx w (a + 1) [.slice none 0 0, .slice none 0 0, .slice none 0 0]
  t2 : L k2 = true → Bx w (a + 1) c2
  s3 : L k3 = false → Bx w (a + 2) [.slice none 0 0, .slice none 0 0]
  t3 : L k3 = true → Bx w (a + 2) (c3 ρ.v)
  vc : L kc = true → ∃ Af cf l, ρ.v = .slice Af (List.length l) cf ∧ l.length ≤ M ∧ Rd w Af (l.map iV) ∧ ∀ b off, Af = some ⟨b, off, none⟩ → w0.heap.size < b
section
variable {p a k1 k2 k3 kc M : Nat} {c1 c2 : List Value} {c3 : Value → List Value} {w0 w w' : World} {L : Nat → Bool} {ρ : Zr}
theorem WW3.start (hk : Keep (fun k => k = p ∨ k = a ∨ k = a + 1 ∨ k = a + 2) w0 w) (hs : Src w p) (h1 : Bx w a [.slice none 0 0, .slice none 0 0]) (h2 : Bx w (a + 1) [.slice none 0 0, .slice none 0 0, .slice none 0 0]) (h3 : Bx w (a + 2) [.slice none 0 0, .slice none 0 0]) : WW3 p a k1 k2 k3 kc c1 c2 c3 M w0 (fun _ => false) ρ w :=
  ⟨hk, hs, fun _ => h1, (fun h => by cases h), fun _ => h2, (fun h => by cases h), fun _ => h3, (fun h => by cases h), (fun h => by cases h)⟩
theorem WW3.pure (h : WW3 p a k1 k2 k3 kc c1 c2 c3 M w0 L ρ w) {i : Nat} (e1 : k1 ≠ i) (e2 : k2 ≠ i) (e3 : k3 ≠ i) (e4 : kc ≠ i) : WW3 p a k1 k2 k3 kc c1 c2 c3 M w0 (upd L i) ρ w :=
  ⟨h.kp, h.sr, by rw [upd_ne e1]; exact h.s1, by rw [upd_ne e1]; exact h.t1, by rw [upd_ne e2]; exact h.s2, by rw [upd_ne e2]; exact h.t2, by rw [upd_ne e3]; exact h.s3, by rw [upd_ne e3]; exact h.t3, by rw [upd_ne e4]; exact h.vc⟩
theorem WW3.call (h : WW3 p a k1 k2 k3 kc c1 c2 c3 M w0 L ρ w) (e1 : k1 ≠ kc) (e2 : k2 ≠ kc) (e3 : k3 ≠ kc) (n3 : L k3 = false) (hk : Keep (· = p) w w') (hs : Src w' p) (hpa : p < a) {Af : Option Addr} {cf : Nat} {l : List Int} (hM : l.length ≤ M) (hr : Rd w' Af (l.map iV)) (hA : ∀ b off, Af = some ⟨b, off, none⟩ → w.heap.size < b) : WW3 p a k1 k2 k3 kc c1 c2 c3 M w0 (upd L kc) ⟨ρ.b, ρ.r, ρ.c, .slice Af l.length cf⟩ w' := by
  have hz := h.kp.size
  exact ⟨h.kp.trans (hk.wide fun k q => Or.inl q), hs, (by rw [upd_ne e1]; exact fun z => (h.s1 z).keep hk (by omega)), (by rw [upd_ne e1]; exact fun z => (h.t1 z).keep hk (by omega)), (by rw [upd_ne e2]; exact fun z => (h.s2 z).keep hk (by omega)), (by rw [upd_ne e2]; exact fun z => (h.t2 z).keep hk (by omega)), fun _ => (h.s3 n3).keep hk (by omega), (by rw [upd_ne e3, n3]; intro z; cases z), fun _ => ⟨Af, cf, l, rfl, hM, hr, fun b off e => by have := hA b off e; omega⟩⟩
theorem WW3.keepv (h : WW3 p a k1 k2 k3 kc c1 c2 c3 M w0 L ρ w) {q : Nat} (hk : Keep (· = q) w w') (hq : q ≤ w0.heap.size) (z : L kc = true) : ∃ Af cf l, ρ.v = .slice Af (List.length l) cf ∧ l.length ≤ M ∧ Rd w' Af (l.map iV) ∧ ∀ b off, Af = some ⟨b, off, none⟩ → w0.heap.size < b := by
  obtain ⟨Af, cf, l, e, hM, hr, hA⟩ := h.vc z
  exact ⟨Af, cf, l, e, hM, hr.keep hk (fun b off e q => by have := hA b off e; omega), hA⟩
theorem WW3.put1 (h : WW3 p a k1 k2 k3 kc c1 c2 c3 M w0 L ρ w) (e2 : k2 ≠ k1) (e3 : k3 ≠ k1) (e4 : kc ≠ k1) (hpa : p < a) (hq : a ≤ w0.heap.size) (hk : Keep (· = a) w w') (ht : Bx w' a c1) : WW3 p a k1 k2 k3 kc c1 c2 c3 M w0 (upd L k1) ρ w' :=
  ⟨h.kp.trans (hk.wide fun k q => Or.inr (Or.inl q)), h.sr.high (B := p + 1) ⟨hk.os, hk.tape, hk.output, hk.size, fun k q => hk.block k (by have := h.sr.lt; omega) (by omega)⟩ (by omega), (by rw [upd_self]; intro z; cases z), fun _ => ht, (by rw [upd_ne e2]; exact fun z => (h.s2 z).keep hk (by omega)), (by rw [upd_ne e2]; exact fun z => (h.t2 z).keep hk (by omega)), (by rw [upd_ne e3]; exact fun z => (h.s3 z).keep hk (by omega)), (by rw [upd_ne e3]; exact fun z => (h.t3 z).keep hk (by omega)), (by rw [upd_ne e4]; exact fun z => h.keepv hk hq z)⟩
theorem WW3.put2 (h : WW3 p a k1 k2 k3 kc c1 c2 c3 M w0 L ρ w) (e1 : k1 ≠ k2) (e3 : k3 ≠ k2) (e4 : kc ≠ k2) (hpa : p < a) (hq : (a + 1) ≤ w0.heap.size) (hk : Keep (· = (a + 1)) w w') (ht : Bx w' (a + 1) c2) : WW3 p a k1 k2 k3 kc c1 c2 c3 M w0 (upd L k2) ρ w' :=
  ⟨h.kp.trans (hk.wide fun k q => Or.inr (Or.inr (Or.inl q))), h.sr.high (B := p + 1) ⟨hk.os, hk.tape, hk.output, hk.size, fun k q => hk.block k (by have := h.sr.lt; omega) (by omega)⟩ (by omega), (by rw [upd_ne e1]; exact fun z => (h.s1 z).keep hk (by omega)), (by rw [upd_ne e1]; exact fun z => (h.t1 z).keep hk (by omega)), (by rw [upd_self]; intro z; cases z), fun _ => ht, (by rw [upd_ne e3]; exact fun z => (h.s3 z).keep hk (by omega)), (by rw [upd_ne e3]; exact fun z => (h.t3 z).keep hk (by omega)), (by rw [upd_ne e4]; exact fun z => h.keepv hk hq z)⟩
theorem WW3.put3 (h : WW3 p a k1 k2 k3 kc c1 c2 c3 M w0 L ρ w) (e1 : k1 ≠ k3) (e2 : k2 ≠ k3) (e4 : kc ≠ k3) (hpa : p < a) (hq : (a + 2) ≤ w0.heap.size) (hk : Keep (· = (a + 2)) w w') (ht : Bx w' (a + 2) (c3 ρ.v)) : WW3 p a k1 k2 k3 kc c1 c2 c3 M w0 (upd L k3) ρ w' :=
  ⟨h.kp.trans (hk.wide fun k q => Or.inr (Or.inr (Or.inr q))), h.sr.high (B := p + 1) ⟨hk.os, hk.tape, hk.output, hk.size, fun k q => hk.block k (by have := h.sr.lt; omega) (by omega)⟩ (by omega), (by rw [upd_ne e1]; exact fun z => (h.s1 z).keep hk (by omega)), (by rw [upd_ne e1]; exact fun z => (h.t1 z).keep hk (by omega)), (by rw [upd_ne e2]; exact fun z => (h.s2 z).keep hk (by omega)), (by rw [upd_ne e2]; exact fun z => (h.t2 z).keep hk (by omega)), (by rw [upd_self]; intro z; cases z), fun _ => ht, (by rw [upd_ne e4]; exact fun z => h.keepv hk hq z)⟩
end
end Go.Proofs.Ytijhadafmhbceaa
