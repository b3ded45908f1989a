/- SharePack. -/
import Derived.Test.YtkagnkecgkmpcaaSht
import Derived.Test.YtkagnkecgkmpcaaPb
namespace Go.Proofs.Ytkagnkecgkmpcaa
set_option linter.unusedVariables false
set_option linter.unusedSimpArgs false
open Go.RowKit
def pks (N : Net) (lv : List Int) : List Int := N.pipes.map (packF lv)
theorem pks_len (N : Net) (lv : List Int) : (pks N lv).length = N.pipes.length := by simp [pks]
theorem pks_bd {N : Net} {lv : List Int} (hO : N.Ok) (hv : LvOk lv N.nodes.length) : ∀ x ∈ pks N lv, 0 ≤ x ∧ x ≤ 20000000000 := fun x hx => by
  obtain ⟨p, hp, rfl⟩ := List.mem_map.1 hx
  exact packF_bd (hO.pipes p hp) hv
theorem pks_sml {N : Net} {lv : List Int} (hO : N.Ok) (hv : LvOk lv N.nodes.length) : Sml (pks N lv) := fun x hx => by have := pks_bd hO hv x hx; omega
noncomputable def spR (N : Net) (lv : List Int) (am : Int) : List Int × Int :=
  if lvC N lv ≠ 0 then ([], lvC N lv) else if inB am 0 1000000000 = false then ([], 5) else if allB 0 1000000000 (pks N lv) = false then ([], 5) else if (sumF (pks N lv) == 0) = true then ([], 5) else (sharesF am (pks N lv), 0)
theorem sp_ok {N : Net} {lv : List Int} {am : Int} (hO : N.Ok) (h1 : inB am 0 1000000000 = true) (h2 : allB 0 1000000000 (pks N lv) = true) (h3 : (sumF (pks N lv) == 0) = false) : ShOk am (pks N lv) := by
  have hb := allB_iff.1 h2
  have h0 := sumF_nonneg (l := pks N lv) (fun x hx => (hb x hx).1)
  have hp := hO.p1
  simp at h3
  rw [inB_iff] at h1
  exact ⟨by rw [pks_len]; omega, hb, h1.1, h1.2, by omega⟩
theorem spR_len {N : Net} {lv : List Int} {am : Int} : (spR N lv am).1.length ≤ 1048576 := by
  unfold spR
  split
  · simp
  · rename_i h
    have hO := (lv_of (by simpa using h)).1
    have hp := hO.p1
    repeat' split
    all_goals first | (simp; done) | (simp [sharesF_len, pks_len]; omega)
theorem spR_1 {N : Net} {lv : List Int} {am : Int} (h : lvC N lv ≠ 0) : spR N lv am = ([], lvC N lv) := by simp [spR, h]
theorem spR_2 {N : Net} {lv : List Int} {am : Int} (h : lvC N lv = 0) (h1 : inB am 0 1000000000 = false) : spR N lv am = ([], 5) := by simp [spR, h, h1]
theorem spR_3 {N : Net} {lv : List Int} {am : Int} (h : lvC N lv = 0) (h1 : inB am 0 1000000000 = true) (h2 : allB 0 1000000000 (pks N lv) = false) : spR N lv am = ([], 5) := by simp [spR, h, h1, h2]
theorem spR_4 {N : Net} {lv : List Int} {am : Int} (h : lvC N lv = 0) (h1 : inB am 0 1000000000 = true) (h2 : allB 0 1000000000 (pks N lv) = true) (h3 : (sumF (pks N lv) == 0) = true) : spR N lv am = ([], 5) := by simp only [spR, h, h1, h2, h3]; rfl
theorem spR_5 {N : Net} {lv : List Int} {am : Int} (h : lvC N lv = 0) (h1 : inB am 0 1000000000 = true) (h2 : allB 0 1000000000 (pks N lv) = true) (h3 : (sumF (pks N lv) == 0) = false) : spR N lv am = (sharesF am (pks N lv), 0) := by simp only [spR, h, h1, h2, h3]; rfl
theorem pks_snoc {N : Net} {lv : List Int} {k : Nat} {p : Pp} (h : N.pipes[k]? = some p) : ((pks N lv).take (k + 1)).map iV = ((pks N lv).take k).map iV ++ [iV (packF lv p)] :=
  map_snoc (f := iV) (show (pks N lv)[k]? = some (packF lv p) by simp [pks, h])
theorem impl_allWithin' (A : Option Addr) (c n : Nat) (l : List Int) (lo hi : Int) (w : World) (h : Rd w A (l.map iV)) (hn : l.length = n) (hl : n ≤ 1048576) :
    Calls Try.prog 32 #[.slice A n c, .int .i64 lo, .int .i64 hi] w fun e w' => e = .returned (.bool (allB lo hi l)) ∧ w = w' := by
  subst hn
  exact impl_allWithin A c l lo hi w h hl
theorem impl_sumOf' (A : Option Addr) (c n : Nat) (l : List Int) (w : World) (h : Rd w A (l.map iV)) (hn : l.length = n) (hl : n ≤ 1048576) (hs : Sml l) :
    Calls Try.prog 38 #[.slice A n c] w fun e w' => e = .returned (.int .i64 (sumF l)) ∧ w = w' := by
  subst hn
  exact impl_sumOf A c l w h hl hs
set_option maxRecDepth 100000 in
set_option maxHeartbeats 8000000 in
theorem impl_SharePack (A B C : Option Addr) (n c m d e : Nat) (N : Net) (lv : List Int) (am : Int) (w : World) (hN : NetAt w A B N) (hn : n = N.nodes.length) (hm : m = N.pipes.length) (hc : n ≤ c) (h : Rd w C (lv.map iV)) (hl : lv.length ≤ 1048576) :
    Calls Try.prog 19 #[netV A B n c m d, .slice C lv.length e, .int .i64 am] w (MadeR w 1 (spR N lv am).1.length ((spR N lv am).1.map iV) (spR N lv am).2) := by
  subst hn hm
  have HN := Lib.hid hN
  have HL := Lib.hid h
  have hln := hN.ln
  have hlp := hN.lp
  clear hN h
  by_cases h0 : lvC N lv = 0
  case neg =>
    have b0 : (lvC N lv != 0) = true := by simp [h0]
    have HR := Lib.hid (spR_1 (am := am) h0)
    (go_enter Try.func19, Try.ntmps19; go_wp2_with (first | (go_at_call 25; ((with_reducible refine (impl_checkLevels _ _ _ _ _ _ _ _ N lv _ (by exact HN.out.below (by (repeat' (first | (with_reducible exact Below.refl _ _) | (with_reducible assumption) | (with_reducible refine Below.alloc ?_ ?_ _) | (with_reducible refine Below.drew ?_) | (with_reducible refine Below.drewN' ?_ _) | (with_reducible refine Below.setCell ?_ ?_ _) | (refine Below.via ?_ (by with_reducible assumption) ?_) | (with_reducible refine Below.via ?_ (Wd.h _) ?_) | go_size)))) rfl rfl (by omega) (by exact HL.out.below (by (repeat' (first | (with_reducible exact Below.refl _ _) | (with_reducible assumption) | (with_reducible refine Below.alloc ?_ ?_ _) | (with_reducible refine Below.drew ?_) | (with_reducible refine Below.drewN' ?_ _) | (with_reducible refine Below.setCell ?_ ?_ _) | (refine Below.via ?_ (by with_reducible assumption) ?_) | (with_reducible refine Below.via ?_ (Wd.h _) ?_) | go_size)))) (by omega)).mono ?_)); rintro e wn ⟨rfl, hbn⟩; (obtain ⟨hcn, hfn⟩ := bcell hbn; have hzn := hbn.size; (try simp at hzn); have Ncw0_0 := hcn (w.heap.size) (0) (by first | omega | (simp; done) | (simp; omega)); have Nfw0_0 := hfn (w.heap.size) (0) (by first | omega | (simp; done) | (simp; omega)); have Nhy0 : w.heap.size < wn.heap.size := (by omega); have Ncw0_1 := hcn (w.heap.size) (1) (by first | omega | (simp; done) | (simp; omega)); have Nfw0_1 := hfn (w.heap.size) (1) (by first | omega | (simp; done) | (simp; omega)); (first | (simp [go_sem, cw0_0, fw0_0, cw0_1, fw0_1, hy0] at Ncw0_0 Nfw0_0 Ncw0_1 Nfw0_1; clear cw0_0 fw0_0 cw0_1 fw0_1) | (simp [go_sem] at Ncw0_0 Nfw0_0 Ncw0_1 Nfw0_1)); clear hcn hfn; have cw0_0 := Ncw0_0; have fw0_0 := Nfw0_0; have cw0_1 := Ncw0_1; have fw0_1 := Nfw0_1; have hy0 := Nhy0; clear Ncw0_0 Nfw0_0 Ncw0_1 Nfw0_1 Nhy0))))
    go_ret2
    exact MadeR.nil HR.out rfl (by (repeat' (first | (with_reducible exact Below.refl _ _) | (with_reducible assumption) | (with_reducible refine Below.alloc ?_ ?_ _) | (with_reducible refine Below.drew ?_) | (with_reducible refine Below.drewN' ?_ _) | (with_reducible refine Below.setCell ?_ ?_ _) | (refine Below.via ?_ (by with_reducible assumption) ?_) | (with_reducible refine Below.via ?_ (Wd.h _) ?_) | go_size)))
  have b0 : (lvC N lv != 0) = false := by simp [h0]
  have H0 := Lib.hid h0
  have HO := Lib.hid (lv_of h0).1
  have HLV := Lib.hid (lv_of h0).2
  have h40 := HO.out.p1
  clear h0
  (go_enter Try.func19, Try.ntmps19; go_wp2_with (first | (go_at_call 25; ((with_reducible refine (impl_checkLevels _ _ _ _ _ _ _ _ N lv _ (by exact HN.out.below (by (repeat' (first | (with_reducible exact Below.refl _ _) | (with_reducible assumption) | (with_reducible refine Below.alloc ?_ ?_ _) | (with_reducible refine Below.drew ?_) | (with_reducible refine Below.drewN' ?_ _) | (with_reducible refine Below.setCell ?_ ?_ _) | (refine Below.via ?_ (by with_reducible assumption) ?_) | (with_reducible refine Below.via ?_ (Wd.h _) ?_) | go_size)))) rfl rfl (by omega) (by exact HL.out.below (by (repeat' (first | (with_reducible exact Below.refl _ _) | (with_reducible assumption) | (with_reducible refine Below.alloc ?_ ?_ _) | (with_reducible refine Below.drew ?_) | (with_reducible refine Below.drewN' ?_ _) | (with_reducible refine Below.setCell ?_ ?_ _) | (refine Below.via ?_ (by with_reducible assumption) ?_) | (with_reducible refine Below.via ?_ (Wd.h _) ?_) | go_size)))) (by omega)).mono ?_)); rintro e wn ⟨rfl, hbn⟩; (obtain ⟨hcn, hfn⟩ := bcell hbn; have hzn := hbn.size; (try simp at hzn); have Ncw0_0 := hcn (w.heap.size) (0) (by first | omega | (simp; done) | (simp; omega)); have Nfw0_0 := hfn (w.heap.size) (0) (by first | omega | (simp; done) | (simp; omega)); have Nhy0 : w.heap.size < wn.heap.size := (by omega); have Ncw0_1 := hcn (w.heap.size) (1) (by first | omega | (simp; done) | (simp; omega)); have Nfw0_1 := hfn (w.heap.size) (1) (by first | omega | (simp; done) | (simp; omega)); (first | (simp [go_sem, cw0_0, fw0_0, cw0_1, fw0_1, hy0] at Ncw0_0 Nfw0_0 Ncw0_1 Nfw0_1; clear cw0_0 fw0_0 cw0_1 fw0_1) | (simp [go_sem] at Ncw0_0 Nfw0_0 Ncw0_1 Nfw0_1)); clear hcn hfn; have cw0_0 := Ncw0_0; have fw0_0 := Nfw0_0; have cw0_1 := Ncw0_1; have fw0_1 := Nfw0_1; have hy0 := Nhy0; clear Ncw0_0 Nfw0_0 Ncw0_1 Nfw0_1 Nhy0))))
  have HBX := Lib.hid (show Bx wn w.heap.size [.slice A N.nodes.length c, .slice B N.pipes.length d] from (bx2 (by first | exact hy0 | go_size) (by first | (with_reducible exact cw0_0) | go_cell_look | (simp [go_sem, hy0, cw0_0, fw0_0, cw0_1, fw0_1]; done) | (simp [go_sem]; done)) (by first | (with_reducible exact fw0_0) | (simp only [World.frozen?_setCell, fw0_0]; done) | (simp [go_sem, hy0, cw0_0, fw0_0, cw0_1, fw0_1]; done) | (simp [go_sem]; done)) (by first | (with_reducible exact cw0_1) | go_cell_look | (simp [go_sem, hy0, cw0_0, fw0_0, cw0_1, fw0_1]; done) | (simp [go_sem]; done)) (by first | (with_reducible exact fw0_1) | (simp only [World.frozen?_setCell, fw0_1]; done) | (simp [go_sem, hy0, cw0_0, fw0_0, cw0_1, fw0_1]; done) | (simp [go_sem]; done))))
  have hbn1 : Below w.heap.size w wn := by (repeat' (first | (with_reducible exact Below.refl _ _) | (with_reducible assumption) | (with_reducible refine Below.alloc ?_ ?_ _) | (with_reducible refine Below.drew ?_) | (with_reducible refine Below.drewN' ?_ _) | (with_reducible refine Below.setCell ?_ ?_ _) | (refine Below.via ?_ (by with_reducible assumption) ?_) | (with_reducible refine Below.via ?_ (Wd.h _) ?_) | go_size))
  have HBN := Lib.hid hbn1
  clear hy0 cw0_0 fw0_0 cw0_1 fw0_1
  clear hbn hbn1
  go_loopw [9, 21] (fun u v wr => ∃ k : Nat, k ≤ N.pipes.length ∧ v = .int .i64 k ∧ Own wr w.heap.size 2 1 u k (((pks N lv).take k).map iV) ∧ Below w.heap.size w wr) (fun _ v _ => N.pipes.length - (intOf v).toNat)
  case atStart => exact ⟨0, by omega, rfl, by simpa using Own.nil wn w.heap.size 2 1, HBN.out⟩
  case round =>
    clear HBX HBN
    obtain ⟨k, hk, rfl, hO, hbw⟩ := hrel
    have hbH := Lib.hid hbw
    have HOW := Lib.hid hO
    clear hO
    by_cases hlt : k < N.pipes.length
    · have HP := Lib.hid HN.out.pipes
      obtain ⟨x, hx⟩ := get_some hlt; obtain ⟨bx, offx, rfl, hbx, hat⟩ := HP.out.opened (k := k) (by rw [flat_len Pp.len]; omega); have hat' := hat.below hbw hbx; have hybx : bx < wr.heap.size := Nat.lt_of_lt_of_le hbx hbw.size; have hzw := hbw.size; have t0 := hat'.elem0 Pp.len hx rfl; have t1 := hat'.elem Pp.len hx 1 rfl; have t2 := hat'.elem Pp.len hx 2 rfl; have t3 := hat'.elem Pp.len hx 3 rfl; have t4 := hat'.elem Pp.len hx 4 rfl; have HX := Lib.hid hx; have HD := Lib.hid (drop_cons hx); have gx : (k : Int) < _ := Int.ofNat_lt.2 hlt; clear hx hat hat'
      have HPB := Lib.hid (HO.out.pipes x (List.mem_of_getElem? HX.out))
      obtain ⟨p1, p2⟩ := packF_bd HPB.out HLV.out
      have HRD := Lib.hid (HL.out.below hbw)
      clear hbw
      go_wp2_with (first | (go_at_call 30; refine (impl_packOf x _ _ _ lv _ HPB.out HLV.out (HRD.out.below (by (repeat' (first | (with_reducible exact Below.refl _ _) | (with_reducible assumption) | (with_reducible refine Below.alloc ?_ ?_ _) | (with_reducible refine Below.drew ?_) | (with_reducible refine Below.drewN' ?_ _) | (with_reducible refine Below.setCell ?_ ?_ _) | (refine Below.via ?_ (by with_reducible assumption) ?_) | (with_reducible refine Below.via ?_ (Wd.h _) ?_) | go_size)))) (by omega)).mono ?_; rintro e wq ⟨rfl, hbq⟩; have HOQ := Lib.hid ((HOW.out.alloc _).below hbq (Nat.le_refl _)); have HBQ := Lib.hid hbq; have hzq := hbq.size; simp at hzq; clear hbq) | (at_builtin; refine wp_app1 _ rfl (.tmp 25) (.tmp 29) 28 rfl (w.heap.size) info_i64 Try.underlying28 rfl (by omega) (by omega) _ (k) _ rfl (HOQ.out.alloc _) wq.heap.size 1 1 [iV (packF lv x)] rfl rfl (by intro j u hu; match j, hu with | 0, hu => (simp at hu; subst hu; simp) | j + 1, hu => simp at hu) (by simp [Value.oneCell']) (by omega) (by simp; omega) ?_; intro v' wn hO' hbn))
      go_roundw
      case rel =>
        refine ⟨k + 1, by omega, by go_num, by rw [pks_snoc HX.out]; exact hO', ?_⟩
        have hq := HBQ.out
        have h1 := hbH.out
        have hz1 := h1.size
        exact Below.via (by (repeat' (first | (with_reducible exact Below.refl _ _) | (with_reducible assumption) | (with_reducible refine Below.alloc ?_ ?_ _) | (with_reducible refine Below.drew ?_) | (with_reducible refine Below.drewN' ?_ _) | (with_reducible refine Below.setCell ?_ ?_ _) | (refine Below.via ?_ (by with_reducible assumption) ?_) | (with_reducible refine Below.via ?_ (Wd.h _) ?_) | go_size))) hbn (Nat.le_refl _)
      case measure => simp [intOf]; omega
    · obtain rfl : k = N.pipes.length := by omega
      have hne : ¬ N.pipes.length < N.pipes.length := by omega
      obtain ⟨C1, e1, rfl, hn1, hr1, _⟩ := HOW.out.val
      rw [List.take_of_length_le (by rw [pks_len]; omega)] at hr1
      have HR1 := Lib.hid hr1
      have HPL := Lib.hid (pks_len N lv)
      have HSM := Lib.hid (pks_sml HO.out HLV.out)
      clear hr1 hbw
      cases g1 : inB am 0 1000000000
      · have HR := Lib.hid (spR_2 H0.out g1)
        go_wp2_with (first | (go_at_call 37; refine (within_any _ _ _ _).mono ?_; rintro e w' ⟨rfl, rfl⟩))
        go_ret2
        exact MadeR.nil HR.out rfl hbH.out
      cases g2 : allB 0 1000000000 (pks N lv)
      · have HR := Lib.hid (spR_3 H0.out g1 g2)
        go_wp2_with (first | (go_at_call 37; refine (within_any _ _ _ _).mono ?_; rintro e w' ⟨rfl, rfl⟩) | (go_at_call 32; refine (impl_allWithin' _ _ _ (pks N lv) _ _ _ HR1.out HPL.out (by omega)).mono ?_; rintro e w' ⟨rfl, rfl⟩))
        go_ret2
        exact MadeR.nil HR.out rfl hbH.out
      cases g3 : (sumF (pks N lv) == 0)
      · have HR := Lib.hid (spR_5 H0.out g1 g2 g3)
        have HSH := Lib.hid (sp_ok HO.out g1 g2 g3)
        have HLE := Lib.hid (show (sharesF am (pks N lv)).length = N.pipes.length by rw [sharesF_len, pks_len])
        go_wp2_with (first | (go_at_call 37; refine (within_any _ _ _ _).mono ?_; rintro e w' ⟨rfl, rfl⟩) | (go_at_call 32; refine (impl_allWithin' _ _ _ (pks N lv) _ _ _ HR1.out HPL.out (by omega)).mono ?_; rintro e w' ⟨rfl, rfl⟩) | (go_at_call 38; refine (impl_sumOf' _ _ _ (pks N lv) _ HR1.out HPL.out (by omega) HSM.out).mono ?_; rintro e w' ⟨rfl, rfl⟩) | (go_at_call 39; refine (impl_sharesOf' _ _ _ _ (pks N lv) _ HSH.out HPL.out HR1.out).mono ?_; rintro e w' ⟨G5, c5, rfl, hc5, hW5, hb5⟩))
        go_ret2
        exact MadeR.of HR.out HLE.out hc5 hW5 (hbH.out).size (by have h1 := hbH.out; have hz1 := h1.size; (repeat' (first | (with_reducible exact Below.refl _ _) | (with_reducible assumption) | (with_reducible refine Below.alloc ?_ ?_ _) | (with_reducible refine Below.drew ?_) | (with_reducible refine Below.drewN' ?_ _) | (with_reducible refine Below.setCell ?_ ?_ _) | (refine Below.via ?_ (by with_reducible assumption) ?_) | (with_reducible refine Below.via ?_ (Wd.h _) ?_) | go_size)))
      · have HR := Lib.hid (spR_4 H0.out g1 g2 g3)
        go_wp2_with (first | (go_at_call 37; refine (within_any _ _ _ _).mono ?_; rintro e w' ⟨rfl, rfl⟩) | (go_at_call 32; refine (impl_allWithin' _ _ _ (pks N lv) _ _ _ HR1.out HPL.out (by omega)).mono ?_; rintro e w' ⟨rfl, rfl⟩) | (go_at_call 38; refine (impl_sumOf' _ _ _ (pks N lv) _ HR1.out HPL.out (by omega) HSM.out).mono ?_; rintro e w' ⟨rfl, rfl⟩))
        go_ret2
        exact MadeR.nil HR.out rfl hbH.out
noncomputable def shR (total : Int) (ws : List Int) : List Int × Int :=
  if inB ws.length 1 64 = false then ([], 3) else if inB total 0 1000000000 = false then ([], 2) else if allB 0 1000000000 ws = false then ([], 2) else if (sumF ws == 0) = true then ([], 5) else (sharesF total ws, 0)
theorem shR_1 {total : Int} {ws : List Int} (h : inB ws.length 1 64 = false) : shR total ws = ([], 3) := by simp [shR, h]
theorem shR_2 {total : Int} {ws : List Int} (h : inB ws.length 1 64 = true) (h1 : inB total 0 1000000000 = false) : shR total ws = ([], 2) := by simp [shR, h, h1]
theorem shR_3 {total : Int} {ws : List Int} (h : inB ws.length 1 64 = true) (h1 : inB total 0 1000000000 = true) (h2 : allB 0 1000000000 ws = false) : shR total ws = ([], 2) := by simp [shR, h, h1, h2]
theorem shR_4 {total : Int} {ws : List Int} (h : inB ws.length 1 64 = true) (h1 : inB total 0 1000000000 = true) (h2 : allB 0 1000000000 ws = true) (h3 : (sumF ws == 0) = true) : shR total ws = ([], 5) := by simp only [shR, h, h1, h2, h3]; rfl
theorem shR_5 {total : Int} {ws : List Int} (h : inB ws.length 1 64 = true) (h1 : inB total 0 1000000000 = true) (h2 : allB 0 1000000000 ws = true) (h3 : (sumF ws == 0) = false) : shR total ws = (sharesF total ws, 0) := by simp only [shR, h, h1, h2, h3]; rfl
theorem sh_ok {total : Int} {ws : List Int} (h : inB ws.length 1 64 = true) (h1 : inB total 0 1000000000 = true) (h2 : allB 0 1000000000 ws = true) (h3 : (sumF ws == 0) = false) : ShOk total ws := by
  have hb := allB_iff.1 h2
  have h0 := sumF_nonneg (l := ws) (fun x hx => (hb x hx).1)
  simp at h3
  rw [inB_iff] at h1 h
  exact ⟨by omega, hb, h1.1, h1.2, by omega⟩
set_option maxRecDepth 100000 in
set_option maxHeartbeats 4000000 in
theorem spec_SharesOf (A : Option Addr) (c : Nat) (total : Int) (ws : List Int) (w : World) (h : Rd w A (ws.map iV)) (hl : ws.length ≤ 1048576) :
    Calls Try.prog 41 #[.int .i64 total, .slice A ws.length c] w (MadeR w 1 (shR total ws).1.length ((shR total ws).1.map iV) (shR total ws).2) := by
  have HL := Lib.hid h
  clear h
  cases g0 : inB ws.length 1 64
  · have HR := Lib.hid (shR_1 (total := total) g0)
    go_enter Try.func41, Try.ntmps41
    go_wp2_with (first | (go_at_call 43; refine (l01In_any _ _ _ _).mono ?_; rintro e w' ⟨rfl, rfl⟩))
    go_ret2
    exact MadeR.nil HR.out rfl (Below.refl _ _)
  cases g1 : inB total 0 1000000000
  · have HR := Lib.hid (shR_2 g0 g1)
    go_enter Try.func41, Try.ntmps41
    go_wp2_with (first | (go_at_call 43; refine (l01In_any _ _ _ _).mono ?_; rintro e w' ⟨rfl, rfl⟩))
    go_ret2
    exact MadeR.nil HR.out rfl (Below.refl _ _)
  go_enter Try.func41, Try.ntmps41
  go_wp2_with (first | (go_at_call 43; refine (l01In_any _ _ _ _).mono ?_; rintro e w' ⟨rfl, rfl⟩))
  go_loop [6] (fun v => ∃ k : Nat, k ≤ ws.length ∧ v = .int .i64 k ∧ Hid (allB 0 1000000000 (ws.drop k) = allB 0 1000000000 ws)) (fun v => ws.length - (intOf v).toNat)
  case atStart => exact ⟨0, by omega, rfl, Lib.hid rfl⟩
  case round =>
    obtain ⟨k, hk, rfl, HF⟩ := hrel
    by_cases hlt : k < ws.length
    · obtain ⟨x, hx⟩ := get_some hlt
      obtain ⟨b, off, rfl, hb, hat⟩ := HL.out.opened (k := k) (by simpa using hlt)
      have t0 := ints_at hat hx
      have HD := Lib.hid (drop_consI hx)
      have g2 : (k : Int) < ws.length := by omega
      clear hx hat
      cases hin : inB x 0 1000000000
      · have HR := Lib.hid (shR_3 g0 g1 (show allB 0 1000000000 ws = false by rw [← HF.out, HD.out, allB, hin, Bool.false_and]))
        go_wp2_with (first | (go_at_call 43; refine (l01In_any _ _ _ _).mono ?_; rintro e w' ⟨rfl, rfl⟩))
        go_ret2
        exact MadeR.nil HR.out rfl (Below.refl _ _)
      · go_wp2_with (first | (go_at_call 43; refine (l01In_any _ _ _ _).mono ?_; rintro e w' ⟨rfl, rfl⟩))
        go_round
        case rel => exact ⟨k + 1, by omega, by go_num, Lib.hid (by rw [← HF.out, HD.out, allB, hin, Bool.true_and])⟩
        case measure => simp [intOf]; omega
    · have h2 : allB 0 1000000000 ws = true := by rw [← HF.out, drop_endI hlt, allB]
      have HSM := Lib.hid (show Sml ws from fun x hx => by have := allB_iff.1 h2 x hx; omega)
      cases g3 : (sumF ws == 0)
      · have HR := Lib.hid (shR_5 g0 g1 h2 g3)
        have HSH := Lib.hid (sh_ok g0 g1 h2 g3)
        go_wp2_with (first | (go_at_call 54; refine (spec_l01Sum _ _ ws _ HL.out (by omega) HSM.out).mono ?_; rintro e w' ⟨rfl, rfl⟩) | (go_at_call 55; refine (spec_l01Shares _ _ _ ws _ HSH.out HL.out).mono ?_; rintro e w' ⟨G5, c5, rfl, hc5, hW5, hb5⟩))
        go_ret2
        exact MadeR.of HR.out (sharesF_len _ _) hc5 hW5 (Nat.le_refl _) hb5
      · have HR := Lib.hid (shR_4 g0 g1 h2 g3)
        go_wp2_with (first | (go_at_call 54; refine (spec_l01Sum _ _ ws _ HL.out (by omega) HSM.out).mono ?_; rintro e w' ⟨rfl, rfl⟩))
        go_ret2
        exact MadeR.nil HR.out rfl (Below.refl _ _)
theorem spec_SharesOf' (A : Option Addr) (c n : Nat) (total : Int) (ws : List Int) (w : World) (RL : List Int) (RC : Int) (h : Rd w A (ws.map iV)) (hn : ws.length = n) (hl : n ≤ 1048576) (hr : shR total ws = (RL, RC)) :
    Calls Try.prog 41 #[.int .i64 total, .slice A n c] w (MadeR w 1 RL.length (RL.map iV) RC) := by
  subst hn
  exact (spec_SharesOf A c total ws w h hl).made hr
theorem sp_sh {N : Net} {lv : List Int} {am : Int} (h : lvC N lv = 0) : (∃ cc, cc ≠ 0 ∧ shR am (pks N lv) = ([], cc) ∧ spR N lv am = ([], 5)) ∨ (shR am (pks N lv) = (sharesF am (pks N lv), 0) ∧ spR N lv am = (sharesF am (pks N lv), 0)) := by
  have hp := (lv_of h).1.p1
  cases g0 : inB (pks N lv).length 1 64
  · refine .inl ⟨3, by decide, shR_1 g0, ?_⟩
    have hz : pks N lv = [] := by
      refine List.eq_nil_of_length_eq_zero ?_
      have h1 : ¬ (inB (pks N lv).length 1 64 = true) := by simp [g0]
      rw [inB_iff] at h1
      have := pks_len N lv
      omega
    cases g1 : inB am 0 1000000000
    · exact spR_2 h g1
    · exact spR_4 h g1 (by rw [hz]; rfl) (by rw [hz]; rfl)
  · cases g1 : inB am 0 1000000000
    · exact .inl ⟨2, by decide, shR_2 g0 g1, spR_2 h g1⟩
    cases g2 : allB 0 1000000000 (pks N lv)
    · exact .inl ⟨2, by decide, shR_3 g0 g1 g2, spR_3 h g1 g2⟩
    cases g3 : (sumF (pks N lv) == 0)
    · exact .inr ⟨shR_5 g0 g1 g2 g3, spR_5 h g1 g2 g3⟩
    · exact .inl ⟨5, by decide, shR_4 g0 g1 g2 g3, spR_4 h g1 g2 g3⟩
set_option maxRecDepth 100000 in
set_option maxHeartbeats 8000000 in
theorem spec_SharePack (A B C : Option Addr) (n c m d e : Nat) (N : Net) (lv : List Int) (am : Int) (w : World) (hN : NetAt w A B N) (hn : n = N.nodes.length) (hm : m = N.pipes.length) (h : Rd w C (lv.map iV)) (hl : lv.length ≤ 1048576) :
    Calls Try.prog 20 #[netV A B n c m d, .slice C lv.length e, .int .i64 am] w (MadeR w 1 (spR N lv am).1.length ((spR N lv am).1.map iV) (spR N lv am).2) := by
  subst hn hm
  have HN := Lib.hid hN
  have HL := Lib.hid h
  have hln := hN.ln
  have hlp := hN.lp
  clear hN h
  by_cases h0 : lvC N lv = 0
  case neg =>
    have b0 : (lvC N lv != 0) = true := by simp [h0]
    have HR := Lib.hid (spR_1 (am := am) h0)
    (go_enter Try.func20, Try.ntmps20; go_wp2_with (first | (go_at_call 27; ((with_reducible refine (spec_l18Levels _ _ _ _ _ _ _ _ N lv _ (by exact HN.out.below (by (repeat' (first | (with_reducible exact Below.refl _ _) | (with_reducible assumption) | (with_reducible refine Below.alloc ?_ ?_ _) | (with_reducible refine Below.drew ?_) | (with_reducible refine Below.drewN' ?_ _) | (with_reducible refine Below.setCell ?_ ?_ _) | (refine Below.via ?_ (by with_reducible assumption) ?_) | (with_reducible refine Below.via ?_ (Wd.h _) ?_) | go_size)))) rfl rfl (by exact HL.out.below (by (repeat' (first | (with_reducible exact Below.refl _ _) | (with_reducible assumption) | (with_reducible refine Below.alloc ?_ ?_ _) | (with_reducible refine Below.drew ?_) | (with_reducible refine Below.drewN' ?_ _) | (with_reducible refine Below.setCell ?_ ?_ _) | (refine Below.via ?_ (by with_reducible assumption) ?_) | (with_reducible refine Below.via ?_ (Wd.h _) ?_) | go_size)))) (by omega)).mono ?_)); rintro e wn ⟨rfl, hbn⟩; (obtain ⟨hcn, hfn⟩ := bcell hbn; have hzn := hbn.size; (try simp at hzn); have Ncw0_0 := hcn (w.heap.size) (0) (by first | omega | (simp; done) | (simp; omega)); have Nfw0_0 := hfn (w.heap.size) (0) (by first | omega | (simp; done) | (simp; omega)); have Nhy0 : w.heap.size < wn.heap.size := (by omega); have Ncw0_1 := hcn (w.heap.size) (1) (by first | omega | (simp; done) | (simp; omega)); have Nfw0_1 := hfn (w.heap.size) (1) (by first | omega | (simp; done) | (simp; omega)); (first | (simp [go_sem, cw0_0, fw0_0, cw0_1, fw0_1, hy0] at Ncw0_0 Nfw0_0 Ncw0_1 Nfw0_1; clear cw0_0 fw0_0 cw0_1 fw0_1) | (simp [go_sem] at Ncw0_0 Nfw0_0 Ncw0_1 Nfw0_1)); clear hcn hfn; have cw0_0 := Ncw0_0; have fw0_0 := Nfw0_0; have cw0_1 := Ncw0_1; have fw0_1 := Nfw0_1; have hy0 := Nhy0; clear Ncw0_0 Nfw0_0 Ncw0_1 Nfw0_1 Nhy0)) | (go_at_call 27; ((with_reducible refine (spec_l18Levels _ _ _ _ _ _ _ _ N lv2 _ (by exact HN.out.below (by (repeat' (first | (with_reducible exact Below.refl _ _) | (with_reducible assumption) | (with_reducible refine Below.alloc ?_ ?_ _) | (with_reducible refine Below.drew ?_) | (with_reducible refine Below.drewN' ?_ _) | (with_reducible refine Below.setCell ?_ ?_ _) | (refine Below.via ?_ (by with_reducible assumption) ?_) | (with_reducible refine Below.via ?_ (Wd.h _) ?_) | go_size)))) rfl rfl (by exact HL2.out.below (by (repeat' (first | (with_reducible exact Below.refl _ _) | (with_reducible assumption) | (with_reducible refine Below.alloc ?_ ?_ _) | (with_reducible refine Below.drew ?_) | (with_reducible refine Below.drewN' ?_ _) | (with_reducible refine Below.setCell ?_ ?_ _) | (refine Below.via ?_ (by with_reducible assumption) ?_) | (with_reducible refine Below.via ?_ (Wd.h _) ?_) | go_size)))) (by omega)).mono ?_)); rintro e wn ⟨rfl, hbn⟩; (obtain ⟨hcn, hfn⟩ := bcell hbn; have hzn := hbn.size; (try simp at hzn); have Ncw0_0 := hcn (w.heap.size) (0) (by first | omega | (simp; done) | (simp; omega)); have Nfw0_0 := hfn (w.heap.size) (0) (by first | omega | (simp; done) | (simp; omega)); have Nhy0 : w.heap.size < wn.heap.size := (by omega); have Ncw0_1 := hcn (w.heap.size) (1) (by first | omega | (simp; done) | (simp; omega)); have Nfw0_1 := hfn (w.heap.size) (1) (by first | omega | (simp; done) | (simp; omega)); (first | (simp [go_sem, cw0_0, fw0_0, cw0_1, fw0_1, hy0] at Ncw0_0 Nfw0_0 Ncw0_1 Nfw0_1; clear cw0_0 fw0_0 cw0_1 fw0_1) | (simp [go_sem] at Ncw0_0 Nfw0_0 Ncw0_1 Nfw0_1)); clear hcn hfn; have cw0_0 := Ncw0_0; have fw0_0 := Nfw0_0; have cw0_1 := Ncw0_1; have fw0_1 := Nfw0_1; have hy0 := Nhy0; clear Ncw0_0 Nfw0_0 Ncw0_1 Nfw0_1 Nhy0))))
    go_ret2
    exact MadeR.nil HR.out rfl (by (repeat' (first | (with_reducible exact Below.refl _ _) | (with_reducible assumption) | (with_reducible refine Below.alloc ?_ ?_ _) | (with_reducible refine Below.drew ?_) | (with_reducible refine Below.drewN' ?_ _) | (with_reducible refine Below.setCell ?_ ?_ _) | (refine Below.via ?_ (by with_reducible assumption) ?_) | (with_reducible refine Below.via ?_ (Wd.h _) ?_) | go_size)))
  have b0 : (lvC N lv != 0) = false := by simp [h0]
  have HSS := Lib.hid (sp_sh (am := am) h0)
  have H0 := Lib.hid h0
  have HO := Lib.hid (lv_of h0).1
  have HLV := Lib.hid (lv_of h0).2
  have h40 := HO.out.p1
  clear h0
  (go_enter Try.func20, Try.ntmps20; go_wp2_with (first | (go_at_call 27; ((with_reducible refine (spec_l18Levels _ _ _ _ _ _ _ _ N lv _ (by exact HN.out.below (by (repeat' (first | (with_reducible exact Below.refl _ _) | (with_reducible assumption) | (with_reducible refine Below.alloc ?_ ?_ _) | (with_reducible refine Below.drew ?_) | (with_reducible refine Below.drewN' ?_ _) | (with_reducible refine Below.setCell ?_ ?_ _) | (refine Below.via ?_ (by with_reducible assumption) ?_) | (with_reducible refine Below.via ?_ (Wd.h _) ?_) | go_size)))) rfl rfl (by exact HL.out.below (by (repeat' (first | (with_reducible exact Below.refl _ _) | (with_reducible assumption) | (with_reducible refine Below.alloc ?_ ?_ _) | (with_reducible refine Below.drew ?_) | (with_reducible refine Below.drewN' ?_ _) | (with_reducible refine Below.setCell ?_ ?_ _) | (refine Below.via ?_ (by with_reducible assumption) ?_) | (with_reducible refine Below.via ?_ (Wd.h _) ?_) | go_size)))) (by omega)).mono ?_)); rintro e wn ⟨rfl, hbn⟩; (obtain ⟨hcn, hfn⟩ := bcell hbn; have hzn := hbn.size; (try simp at hzn); have Ncw0_0 := hcn (w.heap.size) (0) (by first | omega | (simp; done) | (simp; omega)); have Nfw0_0 := hfn (w.heap.size) (0) (by first | omega | (simp; done) | (simp; omega)); have Nhy0 : w.heap.size < wn.heap.size := (by omega); have Ncw0_1 := hcn (w.heap.size) (1) (by first | omega | (simp; done) | (simp; omega)); have Nfw0_1 := hfn (w.heap.size) (1) (by first | omega | (simp; done) | (simp; omega)); (first | (simp [go_sem, cw0_0, fw0_0, cw0_1, fw0_1, hy0] at Ncw0_0 Nfw0_0 Ncw0_1 Nfw0_1; clear cw0_0 fw0_0 cw0_1 fw0_1) | (simp [go_sem] at Ncw0_0 Nfw0_0 Ncw0_1 Nfw0_1)); clear hcn hfn; have cw0_0 := Ncw0_0; have fw0_0 := Nfw0_0; have cw0_1 := Ncw0_1; have fw0_1 := Nfw0_1; have hy0 := Nhy0; clear Ncw0_0 Nfw0_0 Ncw0_1 Nfw0_1 Nhy0)) | (go_at_call 27; ((with_reducible refine (spec_l18Levels _ _ _ _ _ _ _ _ N lv2 _ (by exact HN.out.below (by (repeat' (first | (with_reducible exact Below.refl _ _) | (with_reducible assumption) | (with_reducible refine Below.alloc ?_ ?_ _) | (with_reducible refine Below.drew ?_) | (with_reducible refine Below.drewN' ?_ _) | (with_reducible refine Below.setCell ?_ ?_ _) | (refine Below.via ?_ (by with_reducible assumption) ?_) | (with_reducible refine Below.via ?_ (Wd.h _) ?_) | go_size)))) rfl rfl (by exact HL2.out.below (by (repeat' (first | (with_reducible exact Below.refl _ _) | (with_reducible assumption) | (with_reducible refine Below.alloc ?_ ?_ _) | (with_reducible refine Below.drew ?_) | (with_reducible refine Below.drewN' ?_ _) | (with_reducible refine Below.setCell ?_ ?_ _) | (refine Below.via ?_ (by with_reducible assumption) ?_) | (with_reducible refine Below.via ?_ (Wd.h _) ?_) | go_size)))) (by omega)).mono ?_)); rintro e wn ⟨rfl, hbn⟩; (obtain ⟨hcn, hfn⟩ := bcell hbn; have hzn := hbn.size; (try simp at hzn); have Ncw0_0 := hcn (w.heap.size) (0) (by first | omega | (simp; done) | (simp; omega)); have Nfw0_0 := hfn (w.heap.size) (0) (by first | omega | (simp; done) | (simp; omega)); have Nhy0 : w.heap.size < wn.heap.size := (by omega); have Ncw0_1 := hcn (w.heap.size) (1) (by first | omega | (simp; done) | (simp; omega)); have Nfw0_1 := hfn (w.heap.size) (1) (by first | omega | (simp; done) | (simp; omega)); (first | (simp [go_sem, cw0_0, fw0_0, cw0_1, fw0_1, hy0] at Ncw0_0 Nfw0_0 Ncw0_1 Nfw0_1; clear cw0_0 fw0_0 cw0_1 fw0_1) | (simp [go_sem] at Ncw0_0 Nfw0_0 Ncw0_1 Nfw0_1)); clear hcn hfn; have cw0_0 := Ncw0_0; have fw0_0 := Nfw0_0; have cw0_1 := Ncw0_1; have fw0_1 := Nfw0_1; have hy0 := Nhy0; clear Ncw0_0 Nfw0_0 Ncw0_1 Nfw0_1 Nhy0))))
  have HBX := Lib.hid (show Bx wn w.heap.size [.slice A N.nodes.length c, .slice B N.pipes.length d] from (bx2 (by first | exact hy0 | go_size) (by first | (with_reducible exact cw0_0) | go_cell_look | (simp [go_sem, hy0, cw0_0, fw0_0, cw0_1, fw0_1]; done) | (simp [go_sem]; done)) (by first | (with_reducible exact fw0_0) | (simp only [World.frozen?_setCell, fw0_0]; done) | (simp [go_sem, hy0, cw0_0, fw0_0, cw0_1, fw0_1]; done) | (simp [go_sem]; done)) (by first | (with_reducible exact cw0_1) | go_cell_look | (simp [go_sem, hy0, cw0_0, fw0_0, cw0_1, fw0_1]; done) | (simp [go_sem]; done)) (by first | (with_reducible exact fw0_1) | (simp only [World.frozen?_setCell, fw0_1]; done) | (simp [go_sem, hy0, cw0_0, fw0_0, cw0_1, fw0_1]; done) | (simp [go_sem]; done))))
  have hbn1 : Below w.heap.size w wn := by (repeat' (first | (with_reducible exact Below.refl _ _) | (with_reducible assumption) | (with_reducible refine Below.alloc ?_ ?_ _) | (with_reducible refine Below.drew ?_) | (with_reducible refine Below.drewN' ?_ _) | (with_reducible refine Below.setCell ?_ ?_ _) | (refine Below.via ?_ (by with_reducible assumption) ?_) | (with_reducible refine Below.via ?_ (Wd.h _) ?_) | go_size))
  have hzw0 : w.heap.size + 1 ≤ wn.heap.size := by omega
  have HOW := Lib.hid (Own.lit0 wn (w.heap.size + 1) 2 1 hzw0)
  have hbn2 : Below (w.heap.size + 1) wn (wn.alloc (.cells #[] 2)) := (Below.refl _ _).alloc hzw0 _
  have HBN := Lib.hid (Below.via hbn1 hbn2 (by omega))
  have HBX2 := Lib.hid (HBX.out.below hbn2 (by omega))
  clear hy0 cw0_0 fw0_0 cw0_1 fw0_1
  clear hbn hbn1 hbn2
  go_loopw [9, 10] (fun u v wr => ∃ k : Nat, k ≤ N.pipes.length ∧ v = .int .i64 k ∧ Own wr (w.heap.size + 1) 2 1 u k (((pks N lv).take k).map iV) ∧ Bx wr w.heap.size [.slice A N.nodes.length c, .slice B N.pipes.length d] ∧ Below w.heap.size w wr) (fun _ v _ => N.pipes.length - (intOf v).toNat)
  case atStart => exact ⟨0, by omega, rfl, by simpa using HOW.out, HBX2.out, HBN.out⟩
  case round =>
    clear HBX HBN HBX2 HOW
    obtain ⟨k, hk, rfl, hO, hB, hbw⟩ := hrel
    have hbH := Lib.hid hbw
    have HOW := Lib.hid hO
    have HBX := Lib.hid hB
    have hy0 := hB.lt; have cw0_0 := hB.cell 0 rfl; have fw0_0 := hB.frozen 0 rfl; have cw0_1 := hB.cell 1 rfl; have fw0_1 := hB.frozen 1 rfl
    clear hO hB
    by_cases hlt : k < N.pipes.length
    · have HP := Lib.hid HN.out.pipes
      obtain ⟨x, hx⟩ := get_some hlt; obtain ⟨bx, offx, rfl, hbx, hat⟩ := HP.out.opened (k := k) (by rw [flat_len Pp.len]; omega); have hat' := hat.below hbw hbx; have hybx : bx < wr.heap.size := Nat.lt_of_lt_of_le hbx hbw.size; have hzw := hbw.size; have t0 := hat'.elem0 Pp.len hx rfl; have t1 := hat'.elem Pp.len hx 1 rfl; have t2 := hat'.elem Pp.len hx 2 rfl; have t3 := hat'.elem Pp.len hx 3 rfl; have t4 := hat'.elem Pp.len hx 4 rfl; have HX := Lib.hid hx; have HD := Lib.hid (drop_cons hx); have gx : (k : Int) < _ := Int.ofNat_lt.2 hlt; clear hx hat hat'
      have HPB := Lib.hid (HO.out.pipes x (List.mem_of_getElem? HX.out))
      obtain ⟨p1, p2⟩ := packF_bd HPB.out HLV.out
      have HRD := Lib.hid (HL.out.below hbw)
      clear hbw
      go_wp2_with (first | (go_at_call 40; refine (spec_l18Pack x _ _ _ lv _ HPB.out HLV.out (HRD.out.below (by (repeat' (first | (with_reducible exact Below.refl _ _) | (with_reducible assumption) | (with_reducible refine Below.alloc ?_ ?_ _) | (with_reducible refine Below.drew ?_) | (with_reducible refine Below.drewN' ?_ _) | (with_reducible refine Below.setCell ?_ ?_ _) | (refine Below.via ?_ (by with_reducible assumption) ?_) | (with_reducible refine Below.via ?_ (Wd.h _) ?_) | go_size)))) (by omega)).mono ?_; rintro e wq ⟨rfl, hbq⟩; have HOQ := Lib.hid (HOW.out.below hbq (Nat.le_refl _)); have HBXQ := Lib.hid (HBX.out.below hbq (by omega)); have HBQ := Lib.hid hbq; have hzq := hbq.size; (try simp at hzq); clear hbq) | (at_builtin; refine wp_app1 _ rfl (.tmp 27) (.tmp 35) 28 rfl (w.heap.size + 1) info_i64 Try.underlying28 rfl (by omega) (by omega) _ (k) _ rfl (HOQ.out.alloc _) wq.heap.size 1 1 [iV (packF lv x)] rfl rfl (by intro j u hu; match j, hu with | 0, hu => (simp at hu; subst hu; simp) | j + 1, hu => simp at hu) (by simp [Value.oneCell']) (by omega) (by simp; omega) ?_; intro v' wn hO' hbn))
      go_roundw
      case rel =>
        refine ⟨k + 1, by omega, by go_num, by rw [pks_snoc HX.out]; exact hO', (HBXQ.out.below ((Below.refl _ _).alloc (Nat.le_refl _) _) (by omega)).below hbn (by omega), ?_⟩
        have hq := HBQ.out
        have h1 := hbH.out
        have hz1 := h1.size
        exact Below.via (by (repeat' (first | (with_reducible exact Below.refl _ _) | (with_reducible assumption) | (with_reducible refine Below.alloc ?_ ?_ _) | (with_reducible refine Below.drew ?_) | (with_reducible refine Below.drewN' ?_ _) | (with_reducible refine Below.setCell ?_ ?_ _) | (refine Below.via ?_ (by with_reducible assumption) ?_) | (with_reducible refine Below.via ?_ (Wd.h _) ?_) | go_size))) hbn (by omega)
      case measure => simp [intOf]; omega
    · obtain rfl : k = N.pipes.length := by omega
      have hne : ¬ N.pipes.length < N.pipes.length := by omega
      obtain ⟨C1, e1, rfl, hn1, hr1, _⟩ := HOW.out.val
      rw [List.take_of_length_le (by rw [pks_len]; omega)] at hr1
      have HR1 := Lib.hid hr1
      have HPL := Lib.hid (pks_len N lv)
      clear hr1 hbw
      rcases HSS.out with ⟨cc, hcc, hsh, hsp⟩ | ⟨hsh, hsp⟩
      · have HSH := Lib.hid hsh
        have HR := Lib.hid hsp
        have b1 : (cc != 0) = true := by simp [hcc]
        clear hsh hsp hcc HSS
        go_wp2_with (first | (go_at_call 41; refine (spec_SharesOf' _ _ _ _ (pks N lv) _ [] cc HR1.out HPL.out (by omega) HSH.out).mono ?_; rintro e w' ⟨G5, c5, rfl, hc5, hW5, hb5⟩))
        go_ret2
        exact MadeR.nil HR.out rfl (by have h1 := hbH.out; (repeat' (first | (with_reducible exact Below.refl _ _) | (with_reducible assumption) | (with_reducible refine Below.alloc ?_ ?_ _) | (with_reducible refine Below.drew ?_) | (with_reducible refine Below.drewN' ?_ _) | (with_reducible refine Below.setCell ?_ ?_ _) | (refine Below.via ?_ (by with_reducible assumption) ?_) | (with_reducible refine Below.via ?_ (Wd.h _) ?_) | go_size)))
      · have HSH := Lib.hid hsh
        have HR := Lib.hid hsp
        have HLE := Lib.hid (show (sharesF am (pks N lv)).length = N.pipes.length by rw [sharesF_len, pks_len])
        clear hsh hsp HSS
        go_wp2_with (first | (go_at_call 41; refine (spec_SharesOf' _ _ _ _ (pks N lv) _ _ 0 HR1.out HPL.out (by omega) HSH.out).mono ?_; rintro e w' ⟨G5, c5, rfl, hc5, hW5, hb5⟩))
        go_ret2
        rw [HR.out]
        exact ⟨G5, c5, rfl, hc5, hW5.lower hbH.out.size, by have h1 := hbH.out; (repeat' (first | (with_reducible exact Below.refl _ _) | (with_reducible assumption) | (with_reducible refine Below.alloc ?_ ?_ _) | (with_reducible refine Below.drew ?_) | (with_reducible refine Below.drewN' ?_ _) | (with_reducible refine Below.setCell ?_ ?_ _) | (refine Below.via ?_ (by with_reducible assumption) ?_) | (with_reducible refine Below.via ?_ (Wd.h _) ?_) | go_size))⟩
end Go.Proofs.Ytkagnkecgkmpcaa
