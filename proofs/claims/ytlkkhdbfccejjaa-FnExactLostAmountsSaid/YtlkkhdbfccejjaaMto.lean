/- MatchOrders and LostAmounts. -/
import Derived.Test.YtlkkhdbfccejjaaMts
import Derived.Test.YtlkkhdbfccejjaaOr
namespace Go.Proofs.Ytlkkhdbfccejjaa
set_option linter.unusedVariables false
set_option linter.unusedSimpArgs false
open Go.RowKit
theorem _root_.Go.Calls.madeOx {P : Program} {f : FuncId} {args : Array Value} {w : World} {s : Nat} {p : List Ord × Int} {RL : List Ord} {RC : Int} (h : Calls P f args w (MadeR w s p.1.length (p.1.flatMap Ord.cells) p.2)) (hp : p = (RL, RC)) : Calls P f args w (MadeR w s RL.length (RL.flatMap Ord.cells) RC) := by subst hp; exact h
theorem MadeR.nilOx {w w' : World} {code c : Int} {s : Nat} {p : List Ord × Int} (hp : p = ([], c)) (hc : code = c) (hb : Below w.heap.size w w') : MadeR w s p.1.length (p.1.flatMap Ord.cells) p.2 (.returned (.tuple #[.slice none 0 0, .int .i64 code])) w' := by
  subst hp; subst hc
  exact ⟨none, 0, rfl, Nat.le_refl _, by simpa using Wr.nil w.heap.size w', hb⟩
theorem MadeR.ofO {w w0 w' : World} {A : Option Addr} {n c : Nat} {l : List Ord} {p : List Ord × Int} (hp : p = (l, 0)) (hl : l.length = n) (hnc : n ≤ c) (h : Wr w0.heap.size w' A (n * 4) (l.flatMap Ord.cells)) (hb0 : w.heap.size ≤ w0.heap.size) (hb : Below w.heap.size w w') : MadeR w 4 p.1.length (p.1.flatMap Ord.cells) p.2 (.returned (.tuple #[.slice A n c, .int .i64 0])) w' := by
  subst hp; subst hl
  exact ⟨A, c, rfl, hnc, h.lower hb0, hb⟩
noncomputable def mtR (N : Net) (l : List Ord) : List Ord × Int := if ordC N l ≠ 0 then ([], ordC N l) else (waF l (mtL l), 0)
theorem mtR_no {N : Net} {l : List Ord} (h : ordC N l ≠ 0) : mtR N l = ([], ordC N l) := by simp [mtR, h]
theorem mtR_yes {N : Net} {l : List Ord} (h : ordC N l = 0) : mtR N l = (waF l (mtL l), 0) := by simp [mtR, h]
theorem mtR_len {N : Net} {l : List Ord} : (mtR N l).1.length ≤ 1048576 := by
  unfold mtR
  split
  · simp
  · rename_i h
    have := (ord_of (show ordC N l = 0 by simpa using h)).2.1
    simp only [waF_len (mtL_len l)]; omega
def loF : List Ord → List Int → List Int
  | x :: l, a :: am => (x.am - a) :: loF l am
  | _, _ => []
theorem loF_len : ∀ {l : List Ord} {am : List Int}, am.length = l.length → (loF l am).length = l.length
  | [], am, h => by cases am <;> simp [loF]
  | x :: l, [], h => by simp at h
  | x :: l, a :: am, h => by simp only [loF, List.length_cons]; rw [loF_len (by simpa using h)]
theorem loF_get : ∀ {l : List Ord} {am : List Int} {k : Nat} {x : Ord} {a : Int}, l[k]? = some x → am[k]? = some a → (loF l am)[k]? = some (x.am - a)
  | x' :: l, a' :: am, 0, x, a, h1, h2 => by simp at h1 h2; subst h1 h2; simp [loF]
  | x' :: l, a' :: am, k + 1, x, a, h1, h2 => by
    simp only [loF, List.getElem?_cons_succ] at h1 h2 ⊢
    exact loF_get h1 h2
noncomputable def loR (N : Net) (l : List Ord) : List Int × Int := if ordC N l ≠ 0 then ([], ordC N l) else (loF l (mtL l), 0)
theorem loR_no {N : Net} {l : List Ord} (h : ordC N l ≠ 0) : loR N l = ([], ordC N l) := by simp [loR, h]
theorem loR_yes {N : Net} {l : List Ord} (h : ordC N l = 0) : loR N l = (loF l (mtL l), 0) := by simp [loR, h]
theorem loR_len {N : Net} {l : List Ord} : (loR N l).1.length ≤ 1048576 := by
  unfold loR
  split
  · simp
  · rename_i h
    have := (ord_of (show ordC N l = 0 by simpa using h)).2.1
    simp only [loF_len (mtL_len l)]; omega
theorem shOk_of {N : Net} {l : List Ord} (h : ordC N l = 0) : ∀ x ∈ l, 0 ≤ x.sh ∧ x.sh ≤ 15 := fun x hx => (ordB_of ((ord_of h).2.2 x hx)).1
theorem impl_matched' (C : Option Addr) (e : Nat) (l : List Ord) (w : World) (h : Rd w C (l.flatMap Ord.cells)) (hl : l.length ≤ 40) (ha : AmOk l) (hs : ∀ x ∈ l, 0 ≤ x.sh ∧ x.sh ≤ 15) :
    Calls Try.prog 120 #[.slice C l.length e] w (MadeL w 4 l.length ((waF l (mtL l)).flatMap Ord.cells)) := by
  have := impl_matched C e l w h hl ha
  rwa [fold_eq hs] at this
set_option maxRecDepth 100000 in
set_option maxHeartbeats 4000000 in
theorem spec_l22With (C D : Option Addr) (e f : Nat) (l : List Ord) (am : List Int) (w : World) (h : Rd w C (l.flatMap Ord.cells)) (hl : l.length ≤ 40) (h' : Rd w D (am.map iV)) (hm : am.length = l.length) :
    Calls Try.prog 116 #[.slice C l.length e, .slice D l.length f] w (MadeL w 4 l.length ((waF l am).flatMap Ord.cells)) := by
  have HL := Lib.hid h
  have HD0 := Lib.hid h'
  have HM := Lib.hid hm
  clear h h' hm
  go_enter Try.func116, Try.ntmps116
  go_wp2
  go_loopw [5, 6] (fun u v wr => ∃ (k : Nat), k ≤ l.length ∧ v = .int .i64 k ∧ Own wr w.heap.size 117 4 u k (((waF l am).take k).flatMap Ord.cells) ∧ Below w.heap.size w wr) (fun _ v _ => l.length - (intOf v).toNat)
  case atStart => exact ⟨0, by omega, rfl, by simpa using Own.lit0 w w.heap.size 117 4 (Nat.le_refl _), by (repeat' (first | (with_reducible exact Below.refl _ _) | (with_reducible assumption) | (with_reducible refine Below.alloc ?_ ?_ _) | (with_reducible refine Below.drew ?_) | (with_reducible refine Below.drewN' ?_ _) | (with_reducible refine Below.setCell ?_ ?_ _) | (refine Below.via ?_ (by with_reducible assumption) ?_) | (with_reducible refine Below.via ?_ (Wd.h _) ?_) | go_size))⟩
  case round =>
    obtain ⟨k, hk, rfl, hO, hbw⟩ := hrel
    have hbH := Lib.hid hbw
    have HOW := Lib.hid hO
    have hzw := hbw.size
    clear hO
    by_cases hlt : k < l.length
    · obtain ⟨a, ha⟩ := get_some (show k < am.length by rw [HM.out]; exact hlt)
      obtain ⟨bb, ob, rfl, hbb, hatb⟩ := HD0.out.opened (k := k) (by rw [List.length_map, HM.out]; exact hlt)
      obtain ⟨x, hx⟩ := get_some hlt; obtain ⟨bx, offx, rfl, hbx, hat⟩ := HL.out.opened (k := k) (by rw [flat_len Ord.len]; omega); have hat' := hat.below hbw hbx; have hybx : bx < wr.heap.size := Nat.lt_of_lt_of_le hbx hbw.size; have hzw := hbw.size; have t0 := hat'.elem0 Ord.len hx rfl; have t1 := hat'.elem Ord.len hx 1 rfl; have t2 := hat'.elem Ord.len hx 2 rfl; have t3 := hat'.elem Ord.len hx 3 rfl; have HX := Lib.hid hx; have HD := Lib.hid (drop_cons hx); have gx : (k : Int) < _ := Int.ofNat_lt.2 hlt; clear hx hat hat'
      have t9 := ints_at (hatb.below hbw hbb) ha
      have hyb : bb < wr.heap.size := by omega
      have HG := Lib.hid (waF_get HX.out ha)
      clear ha hatb hbw t2
      go_wp2_with fail
      go_region_held3 (fun w' => w'.cell? ⟨bx, offx + k * 4, none⟩ = some (.int .i64 x.sh) ∧ w'.cell? ⟨bx, offx + k * 4 + 1, none⟩ = some (.int .i64 x.nd) ∧ w'.cell? ⟨bx, offx + k * 4 + 3, none⟩ = some (.int .i64 x.cl) ∧ w'.cell? ⟨bb, ob + k, none⟩ = some (.int .i64 a))
        (first | exact ⟨t0, t1, t3, t9⟩ | go_keep | exact ⟨bc hb1 hbx (by simp [go_sem, t0, hybx]), bc hb1 hbx (by simp [go_sem, t1, hybx]), bc hb1 hbx (by simp [go_sem, t3, hybx]), bc hb1 hbb (by simp [go_sem, t9, hyb])⟩)
        (first
          | (apply step_of rfl; refine app1x _ (.tmp 14) (.tmp 35) 60 rfl w.heap.size info_OrdC Try.underlying60 rfl (by decide) (by decide) u5 k (((waF l am).take k).flatMap Ord.cells) rfl ?ownB _ 1 1 ((⟨x.sh, x.nd, a, x.cl⟩ : Ord).cells) rfl rfl ?hnewsB ?h1B (by decide) ?hnB ?hbaseB ?hfinB; (case ownB => (repeat' (first | (with_reducible exact HOW.out) | (with_reducible refine Own.alloc ?_ _) | (with_reducible refine Own.drew ?_)))); (case hnewsB => (intro j u hu; match j, hu with | 0, hu => (simp [Ord.cells] at hu; subst hu; first | done | simp) | 1, hu => (simp [Ord.cells] at hu; subst hu; first | done | simp) | 2, hu => (simp [Ord.cells] at hu; subst hu; first | done | simp) | 3, hu => (simp [Ord.cells] at hu; subst hu; first | done | simp) | j + 4, hu => simp [Ord.cells] at hu)); (case h1B => (simp [Ord.cells, Value.oneCell'])); (case hnB => omega); (case hbaseB => (first | omega | (simp <;> omega))); intro v1 w1 hO1 hb1 hF1; have HO1 := Lib.hid hO1; clear hO1))
      all_goals
        go_wp2
        go_roundw
        case rel =>
          refine ⟨k + 1, by omega, by go_num, by rw [flat_snoc _ _ _ HG.out]; exact HO1.out, ?_⟩
          have h1 := hbH.out
          (repeat' (first | (with_reducible exact Below.refl _ _) | (with_reducible assumption) | (with_reducible refine Below.alloc ?_ ?_ _) | (with_reducible refine Below.drew ?_) | (with_reducible refine Below.drewN' ?_ _) | (with_reducible refine Below.setCell ?_ ?_ _) | (refine Below.via ?_ (by with_reducible assumption) ?_) | (with_reducible refine Below.via ?_ (Wd.h _) ?_) | go_size))
        case measure => simp [intOf]; omega
    · obtain rfl : k = l.length := by omega
      have hne : ¬ l.length < l.length := by omega
      clear hbw
      go_wp2
      go_ret
      obtain ⟨B1, cc, rfl, hnc, hw⟩ := HOW.out.lt_
      rw [List.take_of_length_le (by rw [waF_len HM.out]; omega)] at hw
      exact ⟨B1, cc, rfl, hnc, hw, hbH.out⟩
set_option maxRecDepth 100000 in
set_option maxHeartbeats 4000000 in
theorem impl_MatchOrders (A B C : Option Addr) (n c m d e : Nat) (N : Net) (lo : List Ord) (w : World) (hN : NetAt w A B N) (hn : n = N.nodes.length) (hm : m = N.pipes.length) (hc : n ≤ c) (h : Rd w C (lo.flatMap Ord.cells)) (hl : lo.length ≤ 1048576) :
    Calls Try.prog 38 #[netV A B n c m d, .slice C lo.length e] w (MadeR w 4 (mtR N lo).1.length ((mtR N lo).1.flatMap Ord.cells) (mtR N lo).2) := by
  subst hn hm
  have HN := Lib.hid hN
  have HL := Lib.hid h
  have hln := hN.ln
  clear hN h
  by_cases h0 : ordC N lo = 0
  · have b0 : (ordC N lo != 0) = false := by simp [h0]
    have HA := Lib.hid (amOk_of h0)
    have HS := Lib.hid (shOk_of h0)
    have h40 := (ord_of h0).2.1
    have HR := Lib.hid (mtR_yes h0)
    clear h0
    (go_enter Try.func38, Try.ntmps38; go_wp2_with (first | (go_at_call 119; ((with_reducible refine (impl_checkOrders _ _ _ _ _ _ _ _ N lo _ (by exact HN.out.below (by (repeat' (first | (with_reducible exact Below.refl _ _) | (with_reducible assumption) | (with_reducible refine Below.alloc ?_ ?_ _) | (with_reducible refine Below.drew ?_) | (with_reducible refine Below.drewN' ?_ _) | (with_reducible refine Below.setCell ?_ ?_ _) | (refine Below.via ?_ (by with_reducible assumption) ?_) | (with_reducible refine Below.via ?_ (Wd.h _) ?_) | go_size)))) rfl rfl (by omega) (by exact HL.out.below (by (repeat' (first | (with_reducible exact Below.refl _ _) | (with_reducible assumption) | (with_reducible refine Below.alloc ?_ ?_ _) | (with_reducible refine Below.drew ?_) | (with_reducible refine Below.drewN' ?_ _) | (with_reducible refine Below.setCell ?_ ?_ _) | (refine Below.via ?_ (by with_reducible assumption) ?_) | (with_reducible refine Below.via ?_ (Wd.h _) ?_) | go_size)))) (by omega)).mono ?_)); rintro e wn ⟨rfl, hbn⟩; (obtain ⟨hcn, hfn⟩ := bcell hbn; have hzn := hbn.size; (try simp at hzn); have Ncw0_0 := hcn (w.heap.size) (0) (by first | omega | (simp; done) | (simp; omega)); have Nfw0_0 := hfn (w.heap.size) (0) (by first | omega | (simp; done) | (simp; omega)); have Nhy0 : w.heap.size < wn.heap.size := (by omega); have Ncw0_1 := hcn (w.heap.size) (1) (by first | omega | (simp; done) | (simp; omega)); have Nfw0_1 := hfn (w.heap.size) (1) (by first | omega | (simp; done) | (simp; omega)); (first | (simp [go_sem, cw0_0, fw0_0, cw0_1, fw0_1, hy0] at Ncw0_0 Nfw0_0 Ncw0_1 Nfw0_1; clear cw0_0 fw0_0 cw0_1 fw0_1) | (simp [go_sem] at Ncw0_0 Nfw0_0 Ncw0_1 Nfw0_1)); clear hcn hfn; have cw0_0 := Ncw0_0; have fw0_0 := Nfw0_0; have cw0_1 := Ncw0_1; have fw0_1 := Nfw0_1; have hy0 := Nhy0; clear Ncw0_0 Nfw0_0 Ncw0_1 Nfw0_1 Nhy0))))
    refine (impl_matched' _ _ lo _ (HL.out.below (by (repeat' (first | (with_reducible exact Below.refl _ _) | (with_reducible assumption) | (with_reducible refine Below.alloc ?_ ?_ _) | (with_reducible refine Below.drew ?_) | (with_reducible refine Below.drewN' ?_ _) | (with_reducible refine Below.setCell ?_ ?_ _) | (refine Below.via ?_ (by with_reducible assumption) ?_) | (with_reducible refine Below.via ?_ (Wd.h _) ?_) | go_size)))) h40 HA.out HS.out).mono ?_
    rintro e w5 ⟨G5, c5, rfl, hc5, hW5, hb5⟩
    have HW5 := Lib.hid hW5
    clear hW5
    go_wp2
    go_ret2
    exact MadeR.ofO HR.out (waF_len (mtL_len lo)) hc5 HW5.out (by omega) (by (repeat' (first | (with_reducible exact Below.refl _ _) | (with_reducible assumption) | (with_reducible refine Below.alloc ?_ ?_ _) | (with_reducible refine Below.drew ?_) | (with_reducible refine Below.drewN' ?_ _) | (with_reducible refine Below.setCell ?_ ?_ _) | (refine Below.via ?_ (by with_reducible assumption) ?_) | (with_reducible refine Below.via ?_ (Wd.h _) ?_) | go_size)))
  · have b0 : (ordC N lo != 0) = true := by simp [h0]
    have HR := Lib.hid (mtR_no h0)
    (go_enter Try.func38, Try.ntmps38; go_wp2_with (first | (go_at_call 119; ((with_reducible refine (impl_checkOrders _ _ _ _ _ _ _ _ N lo _ (by exact HN.out.below (by (repeat' (first | (with_reducible exact Below.refl _ _) | (with_reducible assumption) | (with_reducible refine Below.alloc ?_ ?_ _) | (with_reducible refine Below.drew ?_) | (with_reducible refine Below.drewN' ?_ _) | (with_reducible refine Below.setCell ?_ ?_ _) | (refine Below.via ?_ (by with_reducible assumption) ?_) | (with_reducible refine Below.via ?_ (Wd.h _) ?_) | go_size)))) rfl rfl (by omega) (by exact HL.out.below (by (repeat' (first | (with_reducible exact Below.refl _ _) | (with_reducible assumption) | (with_reducible refine Below.alloc ?_ ?_ _) | (with_reducible refine Below.drew ?_) | (with_reducible refine Below.drewN' ?_ _) | (with_reducible refine Below.setCell ?_ ?_ _) | (refine Below.via ?_ (by with_reducible assumption) ?_) | (with_reducible refine Below.via ?_ (Wd.h _) ?_) | go_size)))) (by omega)).mono ?_)); rintro e wn ⟨rfl, hbn⟩; (obtain ⟨hcn, hfn⟩ := bcell hbn; have hzn := hbn.size; (try simp at hzn); have Ncw0_0 := hcn (w.heap.size) (0) (by first | omega | (simp; done) | (simp; omega)); have Nfw0_0 := hfn (w.heap.size) (0) (by first | omega | (simp; done) | (simp; omega)); have Nhy0 : w.heap.size < wn.heap.size := (by omega); have Ncw0_1 := hcn (w.heap.size) (1) (by first | omega | (simp; done) | (simp; omega)); have Nfw0_1 := hfn (w.heap.size) (1) (by first | omega | (simp; done) | (simp; omega)); (first | (simp [go_sem, cw0_0, fw0_0, cw0_1, fw0_1, hy0] at Ncw0_0 Nfw0_0 Ncw0_1 Nfw0_1; clear cw0_0 fw0_0 cw0_1 fw0_1) | (simp [go_sem] at Ncw0_0 Nfw0_0 Ncw0_1 Nfw0_1)); clear hcn hfn; have cw0_0 := Ncw0_0; have fw0_0 := Nfw0_0; have cw0_1 := Ncw0_1; have fw0_1 := Nfw0_1; have hy0 := Nhy0; clear Ncw0_0 Nfw0_0 Ncw0_1 Nfw0_1 Nhy0))))
    go_ret2
    exact MadeR.nilOx HR.out rfl (by (repeat' (first | (with_reducible exact Below.refl _ _) | (with_reducible assumption) | (with_reducible refine Below.alloc ?_ ?_ _) | (with_reducible refine Below.drew ?_) | (with_reducible refine Below.drewN' ?_ _) | (with_reducible refine Below.setCell ?_ ?_ _) | (refine Below.via ?_ (by with_reducible assumption) ?_) | (with_reducible refine Below.via ?_ (Wd.h _) ?_) | go_size)))
set_option maxRecDepth 100000 in
set_option maxHeartbeats 4000000 in
theorem spec_MatchOrders (A B C : Option Addr) (n c m d e : Nat) (N : Net) (lo : List Ord) (w : World) (hN : NetAt w A B N) (hn : n = N.nodes.length) (hm : m = N.pipes.length) (h : Rd w C (lo.flatMap Ord.cells)) (hl : lo.length ≤ 1048576) :
    Calls Try.prog 36 #[netV A B n c m d, .slice C lo.length e] w (MadeR w 4 (mtR N lo).1.length ((mtR N lo).1.flatMap Ord.cells) (mtR N lo).2) := by
  subst hn hm
  have HN := Lib.hid hN
  have HL := Lib.hid h
  have hln := hN.ln
  clear hN h
  by_cases h0 : ordC N lo = 0
  · have b0 : (ordC N lo != 0) = false := by simp [h0]
    have HA := Lib.hid (amOk_of h0)
    have h40 := (ord_of h0).2.1
    have HR := Lib.hid (mtR_yes h0)
    clear h0
    (go_enter Try.func36, Try.ntmps36; go_wp2_with (first | (go_at_call 115; ((with_reducible refine (spec_l22Code _ _ _ _ _ _ _ _ N lo _ (by exact HN.out.below (by (repeat' (first | (with_reducible exact Below.refl _ _) | (with_reducible assumption) | (with_reducible refine Below.alloc ?_ ?_ _) | (with_reducible refine Below.drew ?_) | (with_reducible refine Below.drewN' ?_ _) | (with_reducible refine Below.setCell ?_ ?_ _) | (refine Below.via ?_ (by with_reducible assumption) ?_) | (with_reducible refine Below.via ?_ (Wd.h _) ?_) | go_size)))) rfl rfl (by exact HL.out.below (by (repeat' (first | (with_reducible exact Below.refl _ _) | (with_reducible assumption) | (with_reducible refine Below.alloc ?_ ?_ _) | (with_reducible refine Below.drew ?_) | (with_reducible refine Below.drewN' ?_ _) | (with_reducible refine Below.setCell ?_ ?_ _) | (refine Below.via ?_ (by with_reducible assumption) ?_) | (with_reducible refine Below.via ?_ (Wd.h _) ?_) | go_size)))) (by omega)).mono ?_)); rintro e wn ⟨rfl, hbn⟩; (obtain ⟨hcn, hfn⟩ := bcell hbn; have hzn := hbn.size; (try simp at hzn); have Ncw0_0 := hcn (w.heap.size) (0) (by first | omega | (simp; done) | (simp; omega)); have Nfw0_0 := hfn (w.heap.size) (0) (by first | omega | (simp; done) | (simp; omega)); have Nhy0 : w.heap.size < wn.heap.size := (by omega); have Ncw0_1 := hcn (w.heap.size) (1) (by first | omega | (simp; done) | (simp; omega)); have Nfw0_1 := hfn (w.heap.size) (1) (by first | omega | (simp; done) | (simp; omega)); (first | (simp [go_sem, cw0_0, fw0_0, cw0_1, fw0_1, hy0] at Ncw0_0 Nfw0_0 Ncw0_1 Nfw0_1; clear cw0_0 fw0_0 cw0_1 fw0_1) | (simp [go_sem] at Ncw0_0 Nfw0_0 Ncw0_1 Nfw0_1)); clear hcn hfn; have cw0_0 := Ncw0_0; have fw0_0 := Nfw0_0; have cw0_1 := Ncw0_1; have fw0_1 := Nfw0_1; have hy0 := Nhy0; clear Ncw0_0 Nfw0_0 Ncw0_1 Nfw0_1 Nhy0))))
    refine (spec_l22Match _ _ lo _ (HL.out.below (by (repeat' (first | (with_reducible exact Below.refl _ _) | (with_reducible assumption) | (with_reducible refine Below.alloc ?_ ?_ _) | (with_reducible refine Below.drew ?_) | (with_reducible refine Below.drewN' ?_ _) | (with_reducible refine Below.setCell ?_ ?_ _) | (refine Below.via ?_ (by with_reducible assumption) ?_) | (with_reducible refine Below.via ?_ (Wd.h _) ?_) | go_size)))) h40 HA.out).mono ?_
    rintro e w5 ⟨G5, c5, rfl, hc5, hW5, hb5⟩
    have HW5 := Lib.hid hW5
    clear hW5
    have hz5 := hb5.size
    go_wp2_with fail
    refine (spec_l22With _ _ _ _ lo (mtL lo) _ (HL.out.below (by (repeat' (first | (with_reducible exact Below.refl _ _) | (with_reducible assumption) | (with_reducible refine Below.alloc ?_ ?_ _) | (with_reducible refine Below.drew ?_) | (with_reducible refine Below.drewN' ?_ _) | (with_reducible refine Below.setCell ?_ ?_ _) | (refine Below.via ?_ (by with_reducible assumption) ?_) | (with_reducible refine Below.via ?_ (Wd.h _) ?_) | go_size)))) h40 HW5.out.rd (mtL_len lo)).mono ?_
    rintro e w6 ⟨G6, c6, rfl, hc6, hW6, hb6⟩
    have HW6 := Lib.hid hW6
    clear hW6
    go_wp2
    go_ret2
    exact MadeR.ofO HR.out (waF_len (mtL_len lo)) hc6 HW6.out (by omega) (by (repeat' (first | (with_reducible exact Below.refl _ _) | (with_reducible assumption) | (with_reducible refine Below.alloc ?_ ?_ _) | (with_reducible refine Below.drew ?_) | (with_reducible refine Below.drewN' ?_ _) | (with_reducible refine Below.setCell ?_ ?_ _) | (refine Below.via ?_ (by with_reducible assumption) ?_) | (with_reducible refine Below.via ?_ (Wd.h _) ?_) | go_size)))
  · have b0 : (ordC N lo != 0) = true := by simp [h0]
    have HR := Lib.hid (mtR_no h0)
    (go_enter Try.func36, Try.ntmps36; go_wp2_with (first | (go_at_call 115; ((with_reducible refine (spec_l22Code _ _ _ _ _ _ _ _ N lo _ (by exact HN.out.below (by (repeat' (first | (with_reducible exact Below.refl _ _) | (with_reducible assumption) | (with_reducible refine Below.alloc ?_ ?_ _) | (with_reducible refine Below.drew ?_) | (with_reducible refine Below.drewN' ?_ _) | (with_reducible refine Below.setCell ?_ ?_ _) | (refine Below.via ?_ (by with_reducible assumption) ?_) | (with_reducible refine Below.via ?_ (Wd.h _) ?_) | go_size)))) rfl rfl (by exact HL.out.below (by (repeat' (first | (with_reducible exact Below.refl _ _) | (with_reducible assumption) | (with_reducible refine Below.alloc ?_ ?_ _) | (with_reducible refine Below.drew ?_) | (with_reducible refine Below.drewN' ?_ _) | (with_reducible refine Below.setCell ?_ ?_ _) | (refine Below.via ?_ (by with_reducible assumption) ?_) | (with_reducible refine Below.via ?_ (Wd.h _) ?_) | go_size)))) (by omega)).mono ?_)); rintro e wn ⟨rfl, hbn⟩; (obtain ⟨hcn, hfn⟩ := bcell hbn; have hzn := hbn.size; (try simp at hzn); have Ncw0_0 := hcn (w.heap.size) (0) (by first | omega | (simp; done) | (simp; omega)); have Nfw0_0 := hfn (w.heap.size) (0) (by first | omega | (simp; done) | (simp; omega)); have Nhy0 : w.heap.size < wn.heap.size := (by omega); have Ncw0_1 := hcn (w.heap.size) (1) (by first | omega | (simp; done) | (simp; omega)); have Nfw0_1 := hfn (w.heap.size) (1) (by first | omega | (simp; done) | (simp; omega)); (first | (simp [go_sem, cw0_0, fw0_0, cw0_1, fw0_1, hy0] at Ncw0_0 Nfw0_0 Ncw0_1 Nfw0_1; clear cw0_0 fw0_0 cw0_1 fw0_1) | (simp [go_sem] at Ncw0_0 Nfw0_0 Ncw0_1 Nfw0_1)); clear hcn hfn; have cw0_0 := Ncw0_0; have fw0_0 := Nfw0_0; have cw0_1 := Ncw0_1; have fw0_1 := Nfw0_1; have hy0 := Nhy0; clear Ncw0_0 Nfw0_0 Ncw0_1 Nfw0_1 Nhy0))))
    go_ret2
    exact MadeR.nilOx HR.out rfl (by (repeat' (first | (with_reducible exact Below.refl _ _) | (with_reducible assumption) | (with_reducible refine Below.alloc ?_ ?_ _) | (with_reducible refine Below.drew ?_) | (with_reducible refine Below.drewN' ?_ _) | (with_reducible refine Below.setCell ?_ ?_ _) | (refine Below.via ?_ (by with_reducible assumption) ?_) | (with_reducible refine Below.via ?_ (Wd.h _) ?_) | go_size)))
end Go.Proofs.Ytlkkhdbfccejjaa
