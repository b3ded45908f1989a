/- ClosestSupplies. -/
import Derived.Test.YtbkeijhlobdkeaaFt
import Derived.Test.YtbkeijhlobdkeaaHo
import Derived.Test.YtbkeijhlobdkeaaOs0
namespace Go.Proofs.Ytbkeijhlobdkeaa
set_option linter.unusedVariables false
set_option linter.unusedSimpArgs false
open Go.RowKit
def csG : List Int → List Int → List Int → List Int → List Int
  | s :: su, l :: ll, h :: lh, x :: nx => (s + max l (min h x) - x) :: csG su ll lh nx
  | _, _, _, _ => []
theorem csG_get : ∀ {su ll lh nx : List Int} {i : Nat} {s l h x : Int}, su[i]? = some s → ll[i]? = some l → lh[i]? = some h → nx[i]? = some x → (csG su ll lh nx)[i]? = some (s + max l (min h x) - x)
  | s' :: su, l' :: ll, h' :: lh, x' :: nx, 0, s, l, h, x, h1, h2, h3, h4 => by
    simp at h1 h2 h3 h4; subst h1 h2 h3 h4; simp [csG]
  | s' :: su, l' :: ll, h' :: lh, x' :: nx, i + 1, s, l, h, x, h1, h2, h3, h4 => by
    simp only [csG, List.getElem?_cons_succ] at h1 h2 h3 h4 ⊢
    exact csG_get h1 h2 h3 h4
theorem csG_len : ∀ {n : Nat} {su ll lh nx : List Int}, su.length = n → ll.length = n → lh.length = n → nx.length = n → (csG su ll lh nx).length = n
  | 0, [], _, _, _, _, _, _, _ => by simp [csG]
  | n + 1, s :: su, l :: ll, h :: lh, x :: nx, h1, h2, h3, h4 => by
    simp only [csG, List.length_cons, Nat.add_right_cancel_iff] at h1 h2 h3 h4 ⊢
    exact csG_len h1 h2 h3 h4
def csL (N : Net) (ll lh ln : List Int) (x : Hr) : List Int := csG x.su ll lh (nextL N ln x.su x.fl)
noncomputable def csR (N : Net) (ll lh ln : List Int) (x : Hr) : List Int × Int :=
  if hrC N ll lh ln x ≠ 0 then ([], hrC N ll lh ln x) else if allB (-30000) 30000 (csL N ll lh ln x) = false then ([], 7) else (csL N ll lh ln x, 0)
theorem csL_len {N : Net} {ll lh ln : List Int} {x : Hr} (h : hrC N ll lh ln x = 0) : (csL N ll lh ln x).length = N.nodes.length := by
  have hh := hrC_of h
  have hb := (bufC_of hh.1).2
  have hs := (hrB_of hh.2).2.1
  exact csG_len hs hb.l1 hb.l2 (nextL_len hb.l3 hs)
theorem csR_len {N : Net} {ll lh ln : List Int} {x : Hr} : (csR N ll lh ln x).1.length ≤ 1048576 := by
  unfold csR; split
  · simp
  · rename_i h
    have h' : hrC N ll lh ln x = 0 := by simpa using h
    have := (bufC_of (hrC_of h').1).1.n2
    split
    · simp
    · simp [csL_len h']; omega
theorem nextL_bd {N : Net} {ll lh ln : List Int} {x : Hr} (h : hrC N ll lh ln x = 0) : ∀ y ∈ nextL N ln x.su x.fl, -3000000 ≤ y ∧ y ≤ 1003000000 := by
  have hh := hrC_of h
  have hb := bufC_of hh.1
  have h1 := addS_bd (s := 1) (la := 0) (ha := 1000000000) (lb := 30000) (hb := 30000) (.inl rfl) (buf_now hb.2) (hrB_of hh.2).2.2 rfl
  have h2 := addS_bd (s := -1) (la := 0 - 30000) (ha := 1000000000 + 30000) (lb := 2400000) (hb := 2400000) (.inr rfl) h1 (outL_bd hb.1 (hrB_of hh.2).1.2) rfl
  intro y hy
  have := h2 y hy
  omega
theorem allB_at {lo hi : Int} {l : List Int} {k : Nat} {x : Int} (h : l[k]? = some x) (hx : inB x lo hi = false) : allB lo hi l = false := by
  cases hb : allB lo hi l with
  | false => rfl
  | true =>
    have := allB_iff.1 hb x (List.mem_of_getElem? h)
    have h2 : inB x lo hi = true := inB_iff.2 this
    rw [hx] at h2; cases h2
theorem Arr.setAt' {w : World} {g N : Nat} {xs : List Value} (h : Arr w g N xs) {i : Nat} (hN : i < N) {v v' : Value} (e : v = v') : Arr (w.setCell ⟨g, i, none⟩ v) g N (xs.set i v') := e ▸ h.setAt hN v
theorem inB_eq {v v' lo hi : Int} {b : Bool} (h : inB v lo hi = b) (e : v' = v) : inB v' lo hi = b := e ▸ h
theorem int_eq {a b : Int} (h : a = b) : Value.int .i64 a = .int .i64 b := by rw [h]
theorem six (a l u : Int) (h : l ≤ u) : (a < l ∧ a < u) ∨ (u < a ∧ l < u) ∨ (u < a ∧ l = u) ∨ (l < a ∧ a < u) ∨ (a = l ∧ a < u) ∨ (a = u ∧ l < a) ∨ (a = l ∧ a = u) := by omega
theorem three (a l u : Int) (h : l ≤ u) : (a < l ∧ a < u) ∨ (l ≤ a ∧ a ≤ u) ∨ (u < a ∧ l < a) := by omega
set_option maxRecDepth 100000 in
set_option maxHeartbeats 4000000 in
theorem impl_ClosestSupplies (A B Al Ah An : Option Addr) (n c m d nl nh nn cl ch cn : Nat) (N : Net) (ll lh ln : List Int) (x : Hr) (w : World) (hN : NetAt w A B N) (hn : n = N.nodes.length) (hm : m = N.pipes.length) (hc : n ≤ c) (h : BufAt w Al Ah An ll lh ln) (e1 : nl = ll.length) (e2 : nh = lh.length) (e3 : nn = ln.length) (hat : HrAt w x) :
    Calls Try.prog 14 #[netV A B n c m d, bufV Al Ah An nl nh nn cl ch cn, x.val] w (MadeR w 1 (csR N ll lh ln x).1.length ((csR N ll lh ln x).1.map iV) (csR N ll lh ln x).2) := by
  subst hn hm e1 e2 e3
  have HN := Lib.hid hN
  have HR := Lib.hid h
  have HA := Lib.hid hat
  have hln := hN.ln
  have q2 := hat.s2
  clear hN h hat
  have HC1 := Lib.hid (hrsC_one N ll lh ln x)
  go_enter Try.func14, Try.ntmps14
  go_wp2_with fail
  
  refine (impl_checkBuffers _ _ _ _ _ _ _ _ _ _ _ _ _ _ _ _ _ N ll lh ln [x] _ (HN.out.below (by (repeat' (first | (with_reducible exact Below.refl _ _) | (with_reducible assumption) | (with_reducible refine Below.alloc ?_ ?_ _) | (with_reducible refine Below.drew ?_) | (with_reducible refine Below.drewN' ?_ _) | (with_reducible refine Below.setCell ?_ ?_ _) | (refine Below.via ?_ (by with_reducible assumption) ?_) | (with_reducible refine Below.via ?_ (Wd.h _) ?_) | go_size)))) rfl rfl hc (HR.out.below (by (repeat' (first | (with_reducible exact Below.refl _ _) | (with_reducible assumption) | (with_reducible refine Below.alloc ?_ ?_ _) | (with_reducible refine Below.drew ?_) | (with_reducible refine Below.drewN' ?_ _) | (with_reducible refine Below.setCell ?_ ?_ _) | (refine Below.via ?_ (by with_reducible assumption) ?_) | (with_reducible refine Below.via ?_ (Wd.h _) ?_) | go_size)))) rfl rfl rfl ?hH ?hA (by simp)).mono ?_
  case hH => exact Rd.two (by simp)
  case hA => exact fun y hy => by obtain rfl : y = x := by simpa using hy
                                  exact HA.out.below (by (repeat' (first | (with_reducible exact Below.refl _ _) | (with_reducible assumption) | (with_reducible refine Below.alloc ?_ ?_ _) | (with_reducible refine Below.drew ?_) | (with_reducible refine Below.drewN' ?_ _) | (with_reducible refine Below.setCell ?_ ?_ _) | (refine Below.via ?_ (by with_reducible assumption) ?_) | (with_reducible refine Below.via ?_ (Wd.h _) ?_) | go_size)))
  rintro e w1 ⟨rfl, hb1⟩
  rw [HC1.out]
  (obtain ⟨hcn, hfn⟩ := bcell hb1; have hz1 := hb1.size; (try simp at hz1); have Ncw0_0 := hcn (w.heap.size) (0) (by first | omega | (simp; done) | (simp; omega)); have Nfw0_0 := hfn (w.heap.size) (0) (by first | omega | (simp; done) | (simp; omega)); have Nhy0 : w.heap.size < w1.heap.size := (by omega); have Ncw0_1 := hcn (w.heap.size) (1) (by first | omega | (simp; done) | (simp; omega)); have Nfw0_1 := hfn (w.heap.size) (1) (by first | omega | (simp; done) | (simp; omega)); have Ncw1_0 := hcn (w.heap.size + 1) (0) (by first | omega | (simp; done) | (simp; omega)); have Nfw1_0 := hfn (w.heap.size + 1) (0) (by first | omega | (simp; done) | (simp; omega)); have Nhy1 : w.heap.size + 1 < w1.heap.size := (by omega); have Ncw1_1 := hcn (w.heap.size + 1) (1) (by first | omega | (simp; done) | (simp; omega)); have Nfw1_1 := hfn (w.heap.size + 1) (1) (by first | omega | (simp; done) | (simp; omega)); have Ncw1_2 := hcn (w.heap.size + 1) (2) (by first | omega | (simp; done) | (simp; omega)); have Nfw1_2 := hfn (w.heap.size + 1) (2) (by first | omega | (simp; done) | (simp; omega)); have Ncw2_0 := hcn (w.heap.size + 2) (0) (by first | omega | (simp; done) | (simp; omega)); have Nfw2_0 := hfn (w.heap.size + 2) (0) (by first | omega | (simp; done) | (simp; omega)); have Nhy2 : w.heap.size + 2 < w1.heap.size := (by omega); have Ncw2_1 := hcn (w.heap.size + 2) (1) (by first | omega | (simp; done) | (simp; omega)); have Nfw2_1 := hfn (w.heap.size + 2) (1) (by first | omega | (simp; done) | (simp; omega)); simp [go_sem] at Ncw0_0 Nfw0_0 Ncw0_1 Nfw0_1 Ncw1_0 Nfw1_0 Ncw1_1 Nfw1_1 Ncw1_2 Nfw1_2 Ncw2_0 Nfw2_0 Ncw2_1 Nfw2_1; clear hcn hfn; have cw0_0 := Ncw0_0; have fw0_0 := Nfw0_0; have cw0_1 := Ncw0_1; have fw0_1 := Nfw0_1; have cw1_0 := Ncw1_0; have fw1_0 := Nfw1_0; have cw1_1 := Ncw1_1; have fw1_1 := Nfw1_1; have cw1_2 := Ncw1_2; have fw1_2 := Nfw1_2; have cw2_0 := Ncw2_0; have fw2_0 := Nfw2_0; have cw2_1 := Ncw2_1; have fw2_1 := Nfw2_1; have hy0 := Nhy0; have hy1 := Nhy1; have hy2 := Nhy2; clear Ncw0_0 Nfw0_0 Ncw0_1 Nfw0_1 Ncw1_0 Nfw1_0 Ncw1_1 Nfw1_1 Ncw1_2 Nfw1_2 Ncw2_0 Nfw2_0 Ncw2_1 Nfw2_1 Nhy0 Nhy1 Nhy2)
  by_cases h0 : hrC N ll lh ln x = 0
  · have b0 : (hrC N ll lh ln x != 0) = false := by simp [h0]
    have HH := Lib.hid (hrC_of h0)
    have HBK := Lib.hid (bufC_of (hrC_of h0).1)
    have HNB := Lib.hid (nextL_bd h0)
    have h24 := HBK.out.1.n2
    have hn1 := HBK.out.1.n1
    have HSU := Lib.hid (hrB_of HH.out.2).2
    have hsu := (hrB_of HH.out.2).2.1
    have l1 : x.su.length ≤ N.nodes.length := by omega
    have l2 : N.nodes.length ≤ x.su.length := by omega
    have l3 : N.nodes.length ≤ ll.length := by have := HBK.out.2.l1; omega
    have l4 : N.nodes.length ≤ lh.length := by have := HBK.out.2.l2; omega
    have l5 : ln.length ≤ N.nodes.length := by have := HBK.out.2.l3; omega
    have l6 : N.nodes.length ≤ ln.length := by have := HBK.out.2.l3; omega
    obtain ⟨nx, hnx⟩ : ∃ nx, nx = nextL N ln x.su x.fl := ⟨_, rfl⟩
    obtain ⟨cs, hcs⟩ : ∃ cs, cs = csL N ll lh ln x := ⟨_, rfl⟩
    have HNX := Lib.hid hnx
    have HCS := Lib.hid hcs
    have HCG := Lib.hid (show cs = csG x.su ll lh nx by rw [hcs, hnx]; rfl)
    have hcl : cs.length = N.nodes.length := by rw [hcs]; exact csL_len h0
    have hnl : nx.length = N.nodes.length := by rw [hnx]; exact nextL_len HBK.out.2.l3 hsu
    have HCL := Lib.hid (show cs.length = x.su.length by omega)
    have l7 : cs.length ≤ x.su.length := by omega
    have l8 : x.su.length ≤ cs.length := by omega
    have l9 : N.nodes.length ≤ nx.length := by omega
    have l10 : nx.length ≤ N.nodes.length := by omega
    have HRS := Lib.hid (show csR N ll lh ln x = (if allB (-30000) 30000 cs = false then ([], 7) else (cs, 0)) by rw [csR, if_neg (by simp [h0]), hcs])
    clear h0 hnx hcs hcl hnl hsu
    go_wp2_with fail
    refine (slices_CloneI _ _ x.su _ (HA.out.r2.below (by (repeat' (first | (with_reducible exact Below.refl _ _) | (with_reducible assumption) | (with_reducible refine Below.alloc ?_ ?_ _) | (with_reducible refine Below.drew ?_) | (with_reducible refine Below.drewN' ?_ _) | (with_reducible refine Below.setCell ?_ ?_ _) | (refine Below.via ?_ (by with_reducible assumption) ?_) | (with_reducible refine Below.via ?_ (Wd.h _) ?_) | go_size)))) q2).mono ?_
    rintro e w2 ⟨G, c2, rfl, hc2, hW2, hb2⟩
    obtain ⟨g, rfl, hg, ha⟩ := hW2.2.1 (by omega)
    (try simp at hg)
    rw [Nat.mul_one] at ha
    have HA2 := Lib.hid ha
    have hg2 := ha.lt
    clear hW2 ha
    (obtain ⟨hcn, hfn⟩ := bcell hb2; have hz2 := hb2.size; (try simp at hz2); have Ncw0_0 := hcn (w.heap.size) (0) (by first | omega | (simp; done) | (simp; omega)); have Nfw0_0 := hfn (w.heap.size) (0) (by first | omega | (simp; done) | (simp; omega)); have Nhy0 : w.heap.size < w2.heap.size := (by omega); have Ncw0_1 := hcn (w.heap.size) (1) (by first | omega | (simp; done) | (simp; omega)); have Nfw0_1 := hfn (w.heap.size) (1) (by first | omega | (simp; done) | (simp; omega)); have Ncw1_0 := hcn (w.heap.size + 1) (0) (by first | omega | (simp; done) | (simp; omega)); have Nfw1_0 := hfn (w.heap.size + 1) (0) (by first | omega | (simp; done) | (simp; omega)); have Nhy1 : w.heap.size + 1 < w2.heap.size := (by omega); have Ncw1_1 := hcn (w.heap.size + 1) (1) (by first | omega | (simp; done) | (simp; omega)); have Nfw1_1 := hfn (w.heap.size + 1) (1) (by first | omega | (simp; done) | (simp; omega)); have Ncw1_2 := hcn (w.heap.size + 1) (2) (by first | omega | (simp; done) | (simp; omega)); have Nfw1_2 := hfn (w.heap.size + 1) (2) (by first | omega | (simp; done) | (simp; omega)); have Ncw2_0 := hcn (w.heap.size + 2) (0) (by first | omega | (simp; done) | (simp; omega)); have Nfw2_0 := hfn (w.heap.size + 2) (0) (by first | omega | (simp; done) | (simp; omega)); have Nhy2 : w.heap.size + 2 < w2.heap.size := (by omega); have Ncw2_1 := hcn (w.heap.size + 2) (1) (by first | omega | (simp; done) | (simp; omega)); have Nfw2_1 := hfn (w.heap.size + 2) (1) (by first | omega | (simp; done) | (simp; omega)); simp [go_sem, cw0_0, fw0_0, cw0_1, fw0_1, cw1_0, fw1_0, cw1_1, fw1_1, cw1_2, fw1_2, cw2_0, fw2_0, cw2_1, fw2_1, hy0, hy1, hy2] at Ncw0_0 Nfw0_0 Ncw0_1 Nfw0_1 Ncw1_0 Nfw1_0 Ncw1_1 Nfw1_1 Ncw1_2 Nfw1_2 Ncw2_0 Nfw2_0 Ncw2_1 Nfw2_1; clear cw0_0 fw0_0 cw0_1 fw0_1 cw1_0 fw1_0 cw1_1 fw1_1 cw1_2 fw1_2 cw2_0 fw2_0 cw2_1 fw2_1 hy0 hy1 hy2; clear hcn hfn; have cw0_0 := Ncw0_0; have fw0_0 := Nfw0_0; have cw0_1 := Ncw0_1; have fw0_1 := Nfw0_1; have cw1_0 := Ncw1_0; have fw1_0 := Nfw1_0; have cw1_1 := Ncw1_1; have fw1_1 := Nfw1_1; have cw1_2 := Ncw1_2; have fw1_2 := Nfw1_2; have cw2_0 := Ncw2_0; have fw2_0 := Nfw2_0; have cw2_1 := Ncw2_1; have fw2_1 := Nfw2_1; have hy0 := Nhy0; have hy1 := Nhy1; have hy2 := Nhy2; clear Ncw0_0 Nfw0_0 Ncw0_1 Nfw0_1 Ncw1_0 Nfw1_0 Ncw1_1 Nfw1_1 Ncw1_2 Nfw1_2 Ncw2_0 Nfw2_0 Ncw2_1 Nfw2_1 Nhy0 Nhy1 Nhy2)
    go_wp2_with fail
    refine (impl_contentAfter _ _ _ _ _ _ _ _ _ _ _ _ _ _ _ N ln x _ (HN.out.below (by (repeat' (first | (with_reducible exact Below.refl _ _) | (with_reducible assumption) | (with_reducible refine Below.alloc ?_ ?_ _) | (with_reducible refine Below.drew ?_) | (with_reducible refine Below.drewN' ?_ _) | (with_reducible refine Below.setCell ?_ ?_ _) | (refine Below.via ?_ (by with_reducible assumption) ?_) | (with_reducible refine Below.via ?_ (Wd.h _) ?_) | go_size)))) rfl rfl HBK.out.1 (HR.out.r3.below (by (repeat' (first | (with_reducible exact Below.refl _ _) | (with_reducible assumption) | (with_reducible refine Below.alloc ?_ ?_ _) | (with_reducible refine Below.drew ?_) | (with_reducible refine Below.drewN' ?_ _) | (with_reducible refine Below.setCell ?_ ?_ _) | (refine Below.via ?_ (by with_reducible assumption) ?_) | (with_reducible refine Below.via ?_ (Wd.h _) ?_) | go_size)))) rfl (HA.out.below (by (repeat' (first | (with_reducible exact Below.refl _ _) | (with_reducible assumption) | (with_reducible refine Below.alloc ?_ ?_ _) | (with_reducible refine Below.drew ?_) | (with_reducible refine Below.drewN' ?_ _) | (with_reducible refine Below.setCell ?_ ?_ _) | (refine Below.via ?_ (by with_reducible assumption) ?_) | (with_reducible refine Below.via ?_ (Wd.h _) ?_) | go_size)))) HH.out.2 HBK.out.2.l3 (buf_now HBK.out.2)).mono ?_
    rintro e w3 ⟨O, c3, rfl, hc3, hW3, hb3⟩
    rw [← HNX.out] at hW3
    have HW3 := Lib.hid hW3
    clear hW3
    (obtain ⟨hcn, hfn⟩ := bcell hb3; have hz3 := hb3.size; (try simp at hz3); have Ncw0_0 := hcn (w.heap.size) (0) (by first | omega | (simp; done) | (simp; omega)); have Nfw0_0 := hfn (w.heap.size) (0) (by first | omega | (simp; done) | (simp; omega)); have Nhy0 : w.heap.size < w3.heap.size := (by omega); have Ncw0_1 := hcn (w.heap.size) (1) (by first | omega | (simp; done) | (simp; omega)); have Nfw0_1 := hfn (w.heap.size) (1) (by first | omega | (simp; done) | (simp; omega)); have Ncw1_0 := hcn (w.heap.size + 1) (0) (by first | omega | (simp; done) | (simp; omega)); have Nfw1_0 := hfn (w.heap.size + 1) (0) (by first | omega | (simp; done) | (simp; omega)); have Nhy1 : w.heap.size + 1 < w3.heap.size := (by omega); have Ncw1_1 := hcn (w.heap.size + 1) (1) (by first | omega | (simp; done) | (simp; omega)); have Nfw1_1 := hfn (w.heap.size + 1) (1) (by first | omega | (simp; done) | (simp; omega)); have Ncw1_2 := hcn (w.heap.size + 1) (2) (by first | omega | (simp; done) | (simp; omega)); have Nfw1_2 := hfn (w.heap.size + 1) (2) (by first | omega | (simp; done) | (simp; omega)); have Ncw2_0 := hcn (w.heap.size + 2) (0) (by first | omega | (simp; done) | (simp; omega)); have Nfw2_0 := hfn (w.heap.size + 2) (0) (by first | omega | (simp; done) | (simp; omega)); have Nhy2 : w.heap.size + 2 < w3.heap.size := (by omega); have Ncw2_1 := hcn (w.heap.size + 2) (1) (by first | omega | (simp; done) | (simp; omega)); have Nfw2_1 := hfn (w.heap.size + 2) (1) (by first | omega | (simp; done) | (simp; omega)); simp [go_sem, cw0_0, fw0_0, cw0_1, fw0_1, cw1_0, fw1_0, cw1_1, fw1_1, cw1_2, fw1_2, cw2_0, fw2_0, cw2_1, fw2_1, hy0, hy1, hy2] at Ncw0_0 Nfw0_0 Ncw0_1 Nfw0_1 Ncw1_0 Nfw1_0 Ncw1_1 Nfw1_1 Ncw1_2 Nfw1_2 Ncw2_0 Nfw2_0 Ncw2_1 Nfw2_1; clear cw0_0 fw0_0 cw0_1 fw0_1 cw1_0 fw1_0 cw1_1 fw1_1 cw1_2 fw1_2 cw2_0 fw2_0 cw2_1 fw2_1 hy0 hy1 hy2; clear hcn hfn; have cw0_0 := Ncw0_0; have fw0_0 := Nfw0_0; have cw0_1 := Ncw0_1; have fw0_1 := Nfw0_1; have cw1_0 := Ncw1_0; have fw1_0 := Nfw1_0; have cw1_1 := Ncw1_1; have fw1_1 := Nfw1_1; have cw1_2 := Ncw1_2; have fw1_2 := Nfw1_2; have cw2_0 := Ncw2_0; have fw2_0 := Nfw2_0; have cw2_1 := Ncw2_1; have fw2_1 := Nfw2_1; have hy0 := Nhy0; have hy1 := Nhy1; have hy2 := Nhy2; clear Ncw0_0 Nfw0_0 Ncw0_1 Nfw0_1 Ncw1_0 Nfw1_0 Ncw1_1 Nfw1_1 Ncw1_2 Nfw1_2 Ncw2_0 Nfw2_0 Ncw2_1 Nfw2_1 Nhy0 Nhy1 Nhy2)
    have HA3 := Lib.hid (HA2.out.below hb3 hg2)
    have HB3 := Lib.hid (show Below w.heap.size w w3 by (repeat' (first | (with_reducible exact Below.refl _ _) | (with_reducible assumption) | (with_reducible refine Below.alloc ?_ ?_ _) | (with_reducible refine Below.drew ?_) | (with_reducible refine Below.drewN' ?_ _) | (with_reducible refine Below.setCell ?_ ?_ _) | (refine Below.via ?_ (by with_reducible assumption) ?_) | (with_reducible refine Below.via ?_ (Wd.h _) ?_) | go_size)))
    have C10 := Lib.hid cw1_0
    have C11 := Lib.hid cw1_1
    have HBX := Lib.hid (show Bx w3 w.heap.size [.slice A N.nodes.length c, .slice B N.pipes.length d] from (bx2 (by first | exact hy0 | go_size) (by first | (with_reducible exact cw0_0) | go_cell_look | (simp [go_sem, hy0, cw0_0, fw0_0, cw0_1, fw0_1]; done) | (simp [go_sem]; done)) (by first | (with_reducible exact fw0_0) | (simp only [World.frozen?_setCell, fw0_0]; done) | (simp [go_sem, hy0, cw0_0, fw0_0, cw0_1, fw0_1]; done) | (simp [go_sem]; done)) (by first | (with_reducible exact cw0_1) | go_cell_look | (simp [go_sem, hy0, cw0_0, fw0_0, cw0_1, fw0_1]; done) | (simp [go_sem]; done)) (by first | (with_reducible exact fw0_1) | (simp only [World.frozen?_setCell, fw0_1]; done) | (simp [go_sem, hy0, cw0_0, fw0_0, cw0_1, fw0_1]; done) | (simp [go_sem]; done))))
    clear hy0 cw0_0 fw0_0 cw0_1 fw0_1
    clear hy1 cw1_0 fw1_0 cw1_1 fw1_1 cw1_2 fw1_2
    clear hy2 cw2_0 fw2_0 cw2_1 fw2_1
    clear hb1 hb2 hb3
    go_wp2_with fail
    go_loopw [28] (fun v wr => ∃ (k : Nat), k ≤ ln.length ∧ v = .int .i64 k ∧ Arr wr g x.su.length ((cs.take k ++ x.su.drop k).map iV) ∧ Keep (· = g) w3 wr) (fun v _ => ln.length - (intOf v).toNat)
    case atStart => exact ⟨0, by omega, rfl, by simpa using HA3.out, Keep.refl _ _⟩
    case round =>
      obtain ⟨k, hk, rfl, hAr, hK⟩ := hrel
      have HAr := Lib.hid hAr
      have HK := Lib.hid hK
      have hzr := hK.size
      have hgr := hAr.lt
      have hz3 := HB3.out.size
      clear hAr hK
      by_cases hlt : k < ln.length
      · obtain ⟨s, hs⟩ := get_some (show k < x.su.length by omega)
        obtain ⟨l, hl⟩ := get_some (show k < ll.length by omega)
        obtain ⟨u, hu⟩ := get_some (show k < lh.length by omega)
        obtain ⟨a, ha⟩ := get_some (show k < nx.length by omega)
        obtain ⟨o, ho⟩ := get_some (show k < ln.length by omega)
        have HG := Lib.hid (show cs[k]? = some (s + max l (min u a) - a) by rw [HCG.out]; exact csG_get hs hl hu ha)
        have el := HBK.out.2.el k l u o hl hu ho
        have bs := HSU.out.2 s (List.mem_of_getElem? hs)
        have ba := HNB.out a (by rw [← HNX.out]; exact List.mem_of_getElem? ha)
        obtain ⟨bo, oo, rfl, hbo, hato⟩ := HW3.out.rd.opened (k := k) (by simp; omega)
        have hlo := HW3.out.lo bo ⟨oo, rfl⟩
        obtain ⟨bl, ol, rfl, hbl, hatl⟩ := HR.out.r1.opened (k := k) (by simp; omega)
        obtain ⟨bu, ou, rfl, hbu, hatu⟩ := HR.out.r2.opened (k := k) (by simp; omega)
        have t0 := (HK.out.cell bo (oo + k) hbo (by omega)).trans (ints_at hato ha)
        have t1 := (HK.out.cell bl (ol + k) (by omega) (by omega)).trans (ints_at (hatl.below HB3.out hbl) hl)
        have t2 := (HK.out.cell bu (ou + k) (by omega) (by omega)).trans (ints_at (hatu.below HB3.out hbu) hu)
        have t3 := ints_cell HAr.out (cur_get (by omega) hs)
        have t4 := (HK.out.cell (w.heap.size + 1) 0 (by omega) (by omega)).trans C10.out
        have t5 := (HK.out.cell (w.heap.size + 1) 1 (by omega) (by omega)).trans C11.out
        have yl : bl < wr.heap.size := by omega
        have yu : bu < wr.heap.size := by omega
        have yo : bo < wr.heap.size := by omega
        have yb : w.heap.size + 1 < wr.heap.size := by omega
        obtain ⟨el1, el2, el3, el4⟩ := el
        obtain ⟨bs1, bs2⟩ := bs
        obtain ⟨ba1, ba2⟩ := ba
        have g1 : (k : Int) < ln.length := by omega
        have g2 : (k : Int) < x.su.length := by omega
        have g3 : (k : Int) < ll.length := by omega
        have g4 : (k : Int) < lh.length := by omega
        clear hs hl hu ha ho hato hatl hatu
        rcases three a l u (by omega) with ⟨c1, c2⟩ | ⟨c1, c2⟩ | ⟨c1, c2⟩
        all_goals
          go_wp2_with fail
          (have qk0 := Wd.cell (by first | assumption | omega | (simp; omega)) t1; have qk1 := Wd.cell (by first | assumption | omega | (simp; omega)) t2; have qk2 := Wd.cell (by first | assumption | omega | (simp; omega)) t3; have qk3 := Wd.cell (by first | assumption | omega | (simp; omega)) t4; have qk4 := Wd.cell (by first | assumption | omega | (simp; omega)) t5; (refine wp_region_wd_tail 23 (by kernel_rfl) (by kernel_rfl) ?_; simp only [List.take_succ_cons, List.take_zero, List.drop_succ_cons, List.drop_zero]); (repeat (go_big_quiet_step ((first | fail)))); (refine wpQuiet_nil ?_); rintro wz ⟨⟨w'', hbwz⟩, hw''⟩; obtain rfl : wz = w'' := hw''; clear qk0 qk1 qk2 qk3 qk4; have hzwz := hbwz.size; (try simp at hzwz))
          have HAz := Lib.hid (HAr.out.below hbwz hgr)
          have s0 := bc hbwz hgr t3
          have s1 := HAz.out.free (j := k) (by omega)
          clear t0 t1 t2 t3 t4 t5
          go_wp2
          go_roundw
          case rel =>
            refine ⟨k + 1, by omega, by go_num, ?_, (HK.out.via hbwz).setCell rfl _⟩
            rw [← cur_step (by omega) HCL.out HG.out, map_set_iV]
            exact HAz.out.setAt' (by omega) (int_eq (by omega))
          case measure => simp [intOf]; omega
      · have hf := HAr.out
        rw [List.take_of_length_le (by omega), List.drop_eq_nil_of_le (by omega), List.append_nil] at hf
        have HAf := Lib.hid hf
        have n0 := HBX.out.cell 0 rfl
        have n1 := HBX.out.cell 1 rfl
        have k0 := (HK.out.cell w.heap.size 0 (by omega) (by omega)).trans n0
        have k1 := (HK.out.cell w.heap.size 1 (by omega) (by omega)).trans n1
        have HBr := Lib.hid (HK.out.below HB3.out (by omega) (fun q hq => by omega))
        have HS2 := Lib.hid (show supB N.nodes.length cs = allB (-30000) 30000 cs by have : cs.length = N.nodes.length := by omega
                                                                                     simp [supB, this])
        clear hf n0 n1
        cases hs : allB (-30000) 30000 cs
        · have HRf := Lib.hid (show csR N ll lh ln x = ([], 7) by rw [HRS.out, if_pos hs])
          go_wp2_with fail
          refine (impl_areSupplies' _ _ _ _ _ _ _ _ _ cs _ hln HAf.out.rd (by omega) (by omega)).mono ?_
          rintro e wq ⟨rfl, hbq⟩
          rw [HS2.out, hs]
          go_wp2
          go_ret2
          exact MadeR.nil HRf.out rfl (by have h1 := HBr.out; (repeat' (first | (with_reducible exact Below.refl _ _) | (with_reducible assumption) | (with_reducible refine Below.alloc ?_ ?_ _) | (with_reducible refine Below.drew ?_) | (with_reducible refine Below.drewN' ?_ _) | (with_reducible refine Below.setCell ?_ ?_ _) | (refine Below.via ?_ (by with_reducible assumption) ?_) | (with_reducible refine Below.via ?_ (Wd.h _) ?_) | go_size)))
        · have HRf := Lib.hid (show csR N ll lh ln x = (cs, 0) by rw [HRS.out, if_neg (by simp [hs])])
          go_wp2_with fail
          refine (impl_areSupplies' _ _ _ _ _ _ _ _ _ cs _ hln HAf.out.rd (by omega) (by omega)).mono ?_
          rintro e wq ⟨rfl, hbq⟩
          rw [HS2.out, hs]
          go_wp2
          go_ret2
          exact MadeR.arr HRf.out (by omega) hc2 (HAf.out.below hbq hgr) (by omega) (by have h1 := HBr.out; (repeat' (first | (with_reducible exact Below.refl _ _) | (with_reducible assumption) | (with_reducible refine Below.alloc ?_ ?_ _) | (with_reducible refine Below.drew ?_) | (with_reducible refine Below.drewN' ?_ _) | (with_reducible refine Below.setCell ?_ ?_ _) | (refine Below.via ?_ (by with_reducible assumption) ?_) | (with_reducible refine Below.via ?_ (Wd.h _) ?_) | go_size)))
  · have b0 : (hrC N ll lh ln x != 0) = true := by simp [h0]
    have HRR := Lib.hid (show csR N ll lh ln x = ([], hrC N ll lh ln x) by simp [csR, h0])
    clear h0
    go_wp2
    go_ret2
    exact MadeR.nil HRR.out rfl (by (repeat' (first | (with_reducible exact Below.refl _ _) | (with_reducible assumption) | (with_reducible refine Below.alloc ?_ ?_ _) | (with_reducible refine Below.drew ?_) | (with_reducible refine Below.drewN' ?_ _) | (with_reducible refine Below.setCell ?_ ?_ _) | (refine Below.via ?_ (by with_reducible assumption) ?_) | (with_reducible refine Below.via ?_ (Wd.h _) ?_) | go_size)))
theorem l06Supply_b {n : Int} {b : Bool} (h : inB n (-30000) 30000 = b) (w : World) :
    Calls Try.prog 55 #[.int .i64 n] w fun e w' => e = .returned (.bool b) ∧ w = w' := h ▸ spec_l06Supply n w
set_option maxRecDepth 100000 in
set_option maxHeartbeats 4000000 in
theorem spec_ClosestSupplies (A B Al Ah An : Option Addr) (n c m d nl nh nn cl ch cn : Nat) (N : Net) (ll lh ln : List Int) (x : Hr) (w : World) (hN : NetAt w A B N) (hn : n = N.nodes.length) (hm : m = N.pipes.length) (h : BufAt w Al Ah An ll lh ln) (e1 : nl = ll.length) (e2 : nh = lh.length) (e3 : nn = ln.length) (hat : HrAt w x) :
    Calls Try.prog 15 #[netV A B n c m d, bufV Al Ah An nl nh nn cl ch cn, x.val] w (MadeR w 1 (csR N ll lh ln x).1.length ((csR N ll lh ln x).1.map iV) (csR N ll lh ln x).2) := by
  subst hn hm e1 e2 e3
  have HN := Lib.hid hN
  have HR := Lib.hid h
  have HA := Lib.hid hat
  have hln := hN.ln
  clear hN h hat
  go_enter Try.func15, Try.ntmps15
  go_wp2_with fail
  
  refine (spec_l19Hour _ _ _ _ _ _ _ _ _ _ _ _ _ _ _ N ll lh ln x _ (HN.out.below (by (repeat' (first | (with_reducible exact Below.refl _ _) | (with_reducible assumption) | (with_reducible refine Below.alloc ?_ ?_ _) | (with_reducible refine Below.drew ?_) | (with_reducible refine Below.drewN' ?_ _) | (with_reducible refine Below.setCell ?_ ?_ _) | (refine Below.via ?_ (by with_reducible assumption) ?_) | (with_reducible refine Below.via ?_ (Wd.h _) ?_) | go_size)))) rfl rfl (HR.out.below (by (repeat' (first | (with_reducible exact Below.refl _ _) | (with_reducible assumption) | (with_reducible refine Below.alloc ?_ ?_ _) | (with_reducible refine Below.drew ?_) | (with_reducible refine Below.drewN' ?_ _) | (with_reducible refine Below.setCell ?_ ?_ _) | (refine Below.via ?_ (by with_reducible assumption) ?_) | (with_reducible refine Below.via ?_ (Wd.h _) ?_) | go_size)))) rfl rfl rfl (HA.out.below (by (repeat' (first | (with_reducible exact Below.refl _ _) | (with_reducible assumption) | (with_reducible refine Below.alloc ?_ ?_ _) | (with_reducible refine Below.drew ?_) | (with_reducible refine Below.drewN' ?_ _) | (with_reducible refine Below.setCell ?_ ?_ _) | (refine Below.via ?_ (by with_reducible assumption) ?_) | (with_reducible refine Below.via ?_ (Wd.h _) ?_) | go_size))))).mono ?_
  rintro e w1 ⟨rfl, hb1⟩
  (obtain ⟨hcn, hfn⟩ := bcell hb1; have hz1 := hb1.size; (try simp at hz1); have Ncw0_0 := hcn (w.heap.size) (0) (by first | omega | (simp; done) | (simp; omega)); have Nfw0_0 := hfn (w.heap.size) (0) (by first | omega | (simp; done) | (simp; omega)); have Nhy0 : w.heap.size < w1.heap.size := (by omega); have Ncw0_1 := hcn (w.heap.size) (1) (by first | omega | (simp; done) | (simp; omega)); have Nfw0_1 := hfn (w.heap.size) (1) (by first | omega | (simp; done) | (simp; omega)); have Ncw1_0 := hcn (w.heap.size + 1) (0) (by first | omega | (simp; done) | (simp; omega)); have Nfw1_0 := hfn (w.heap.size + 1) (0) (by first | omega | (simp; done) | (simp; omega)); have Nhy1 : w.heap.size + 1 < w1.heap.size := (by omega); have Ncw1_1 := hcn (w.heap.size + 1) (1) (by first | omega | (simp; done) | (simp; omega)); have Nfw1_1 := hfn (w.heap.size + 1) (1) (by first | omega | (simp; done) | (simp; omega)); have Ncw1_2 := hcn (w.heap.size + 1) (2) (by first | omega | (simp; done) | (simp; omega)); have Nfw1_2 := hfn (w.heap.size + 1) (2) (by first | omega | (simp; done) | (simp; omega)); have Ncw2_0 := hcn (w.heap.size + 2) (0) (by first | omega | (simp; done) | (simp; omega)); have Nfw2_0 := hfn (w.heap.size + 2) (0) (by first | omega | (simp; done) | (simp; omega)); have Nhy2 : w.heap.size + 2 < w1.heap.size := (by omega); have Ncw2_1 := hcn (w.heap.size + 2) (1) (by first | omega | (simp; done) | (simp; omega)); have Nfw2_1 := hfn (w.heap.size + 2) (1) (by first | omega | (simp; done) | (simp; omega)); simp [go_sem] at Ncw0_0 Nfw0_0 Ncw0_1 Nfw0_1 Ncw1_0 Nfw1_0 Ncw1_1 Nfw1_1 Ncw1_2 Nfw1_2 Ncw2_0 Nfw2_0 Ncw2_1 Nfw2_1; clear hcn hfn; have cw0_0 := Ncw0_0; have fw0_0 := Nfw0_0; have cw0_1 := Ncw0_1; have fw0_1 := Nfw0_1; have cw1_0 := Ncw1_0; have fw1_0 := Nfw1_0; have cw1_1 := Ncw1_1; have fw1_1 := Nfw1_1; have cw1_2 := Ncw1_2; have fw1_2 := Nfw1_2; have cw2_0 := Ncw2_0; have fw2_0 := Nfw2_0; have cw2_1 := Ncw2_1; have fw2_1 := Nfw2_1; have hy0 := Nhy0; have hy1 := Nhy1; have hy2 := Nhy2; clear Ncw0_0 Nfw0_0 Ncw0_1 Nfw0_1 Ncw1_0 Nfw1_0 Ncw1_1 Nfw1_1 Ncw1_2 Nfw1_2 Ncw2_0 Nfw2_0 Ncw2_1 Nfw2_1 Nhy0 Nhy1 Nhy2)
  by_cases h0 : hrC N ll lh ln x = 0
  · have b0 : (hrC N ll lh ln x != 0) = false := by simp [h0]
    have HH := Lib.hid (hrC_of h0)
    have HBK := Lib.hid (bufC_of (hrC_of h0).1)
    have HNB := Lib.hid (nextL_bd h0)
    have h24 := HBK.out.1.n2
    have HSU := Lib.hid (hrB_of HH.out.2).2
    have hsu := (hrB_of HH.out.2).2.1
    have l1 : x.su.length ≤ N.nodes.length := by omega
    have l2 : N.nodes.length ≤ x.su.length := by omega
    have l3 : N.nodes.length ≤ ll.length := by have := HBK.out.2.l1; omega
    have l4 : N.nodes.length ≤ lh.length := by have := HBK.out.2.l2; omega
    have l5 : ln.length ≤ N.nodes.length := by have := HBK.out.2.l3; omega
    have l6 : N.nodes.length ≤ ln.length := by have := HBK.out.2.l3; omega
    obtain ⟨nx, hnx⟩ : ∃ nx, nx = nextL N ln x.su x.fl := ⟨_, rfl⟩
    obtain ⟨cs, hcs⟩ : ∃ cs, cs = csL N ll lh ln x := ⟨_, rfl⟩
    have HNX := Lib.hid hnx
    have HCG := Lib.hid (show cs = csG x.su ll lh nx by rw [hcs, hnx]; rfl)
    have hcl : cs.length = N.nodes.length := by rw [hcs]; exact csL_len h0
    have hnl : nx.length = N.nodes.length := by rw [hnx]; exact nextL_len HBK.out.2.l3 hsu
    have l7 : cs.length ≤ N.nodes.length := by omega
    have l8 : N.nodes.length ≤ cs.length := by omega
    have l9 : N.nodes.length ≤ nx.length := by omega
    have HRS := Lib.hid (show csR N ll lh ln x = (if allB (-30000) 30000 cs = false then ([], 7) else (cs, 0)) by rw [csR, if_neg (by simp [h0]), hcs])
    clear h0 hcs hcl hnl hsu
    go_wp2_with fail
    refine (spec_l19Next _ _ _ _ _ _ _ _ _ N ln x _ (HN.out.below (by (repeat' (first | (with_reducible exact Below.refl _ _) | (with_reducible assumption) | (with_reducible refine Below.alloc ?_ ?_ _) | (with_reducible refine Below.drew ?_) | (with_reducible refine Below.drewN' ?_ _) | (with_reducible refine Below.setCell ?_ ?_ _) | (refine Below.via ?_ (by with_reducible assumption) ?_) | (with_reducible refine Below.via ?_ (Wd.h _) ?_) | go_size)))) rfl rfl HBK.out.1 (HR.out.r3.below (by (repeat' (first | (with_reducible exact Below.refl _ _) | (with_reducible assumption) | (with_reducible refine Below.alloc ?_ ?_ _) | (with_reducible refine Below.drew ?_) | (with_reducible refine Below.drewN' ?_ _) | (with_reducible refine Below.setCell ?_ ?_ _) | (refine Below.via ?_ (by with_reducible assumption) ?_) | (with_reducible refine Below.via ?_ (Wd.h _) ?_) | go_size)))) rfl (HA.out.below (by (repeat' (first | (with_reducible exact Below.refl _ _) | (with_reducible assumption) | (with_reducible refine Below.alloc ?_ ?_ _) | (with_reducible refine Below.drew ?_) | (with_reducible refine Below.drewN' ?_ _) | (with_reducible refine Below.setCell ?_ ?_ _) | (refine Below.via ?_ (by with_reducible assumption) ?_) | (with_reducible refine Below.via ?_ (Wd.h _) ?_) | go_size)))) HH.out.2 HBK.out.2.l3 (buf_now HBK.out.2)).mono ?_
    rintro e w2 ⟨G, cg, rfl, hcg, hW2, hb2⟩
    rw [← hnx] at hW2
    have HW2 := Lib.hid hW2
    clear hW2 hnx
    (obtain ⟨hcn, hfn⟩ := bcell hb2; have hz2 := hb2.size; (try simp at hz2); have Ncw0_0 := hcn (w.heap.size) (0) (by first | omega | (simp; done) | (simp; omega)); have Nfw0_0 := hfn (w.heap.size) (0) (by first | omega | (simp; done) | (simp; omega)); have Nhy0 : w.heap.size < w2.heap.size := (by omega); have Ncw0_1 := hcn (w.heap.size) (1) (by first | omega | (simp; done) | (simp; omega)); have Nfw0_1 := hfn (w.heap.size) (1) (by first | omega | (simp; done) | (simp; omega)); have Ncw1_0 := hcn (w.heap.size + 1) (0) (by first | omega | (simp; done) | (simp; omega)); have Nfw1_0 := hfn (w.heap.size + 1) (0) (by first | omega | (simp; done) | (simp; omega)); have Nhy1 : w.heap.size + 1 < w2.heap.size := (by omega); have Ncw1_1 := hcn (w.heap.size + 1) (1) (by first | omega | (simp; done) | (simp; omega)); have Nfw1_1 := hfn (w.heap.size + 1) (1) (by first | omega | (simp; done) | (simp; omega)); have Ncw1_2 := hcn (w.heap.size + 1) (2) (by first | omega | (simp; done) | (simp; omega)); have Nfw1_2 := hfn (w.heap.size + 1) (2) (by first | omega | (simp; done) | (simp; omega)); have Ncw2_0 := hcn (w.heap.size + 2) (0) (by first | omega | (simp; done) | (simp; omega)); have Nfw2_0 := hfn (w.heap.size + 2) (0) (by first | omega | (simp; done) | (simp; omega)); have Nhy2 : w.heap.size + 2 < w2.heap.size := (by omega); have Ncw2_1 := hcn (w.heap.size + 2) (1) (by first | omega | (simp; done) | (simp; omega)); have Nfw2_1 := hfn (w.heap.size + 2) (1) (by first | omega | (simp; done) | (simp; omega)); simp [go_sem, cw0_0, fw0_0, cw0_1, fw0_1, cw1_0, fw1_0, cw1_1, fw1_1, cw1_2, fw1_2, cw2_0, fw2_0, cw2_1, fw2_1, hy0, hy1, hy2] at Ncw0_0 Nfw0_0 Ncw0_1 Nfw0_1 Ncw1_0 Nfw1_0 Ncw1_1 Nfw1_1 Ncw1_2 Nfw1_2 Ncw2_0 Nfw2_0 Ncw2_1 Nfw2_1; clear cw0_0 fw0_0 cw0_1 fw0_1 cw1_0 fw1_0 cw1_1 fw1_1 cw1_2 fw1_2 cw2_0 fw2_0 cw2_1 fw2_1 hy0 hy1 hy2; clear hcn hfn; have cw0_0 := Ncw0_0; have fw0_0 := Nfw0_0; have cw0_1 := Ncw0_1; have fw0_1 := Nfw0_1; have cw1_0 := Ncw1_0; have fw1_0 := Nfw1_0; have cw1_1 := Ncw1_1; have fw1_1 := Nfw1_1; have cw1_2 := Ncw1_2; have fw1_2 := Nfw1_2; have cw2_0 := Ncw2_0; have fw2_0 := Nfw2_0; have cw2_1 := Ncw2_1; have fw2_1 := Nfw2_1; have hy0 := Nhy0; have hy1 := Nhy1; have hy2 := Nhy2; clear Ncw0_0 Nfw0_0 Ncw0_1 Nfw0_1 Ncw1_0 Nfw1_0 Ncw1_1 Nfw1_1 Ncw1_2 Nfw1_2 Ncw2_0 Nfw2_0 Ncw2_1 Nfw2_1 Nhy0 Nhy1 Nhy2)
    have HB2 := Lib.hid (show Below w.heap.size w w2 by (repeat' (first | (with_reducible exact Below.refl _ _) | (with_reducible assumption) | (with_reducible refine Below.alloc ?_ ?_ _) | (with_reducible refine Below.drew ?_) | (with_reducible refine Below.drewN' ?_ _) | (with_reducible refine Below.setCell ?_ ?_ _) | (refine Below.via ?_ (by with_reducible assumption) ?_) | (with_reducible refine Below.via ?_ (Wd.h _) ?_) | go_size)))
    have C10 := Lib.hid cw1_0
    have C11 := Lib.hid cw1_1
    have C21 := Lib.hid cw2_1
    have hzw2 : w.heap.size + 3 ≤ w2.heap.size := by omega
    clear hy0 cw0_0 fw0_0 cw0_1 fw0_1
    clear hy1 cw1_0 fw1_0 cw1_1 fw1_1 cw1_2 fw1_2
    clear hy2 cw2_0 fw2_0 cw2_1 fw2_1
    clear hb1 hb2
    go_wp2_with fail
    go_loopw [10, 11] (fun u v wr => ∃ k : Nat, k ≤ ln.length ∧ v = .int .i64 k ∧ allB (-30000) 30000 (cs.drop k) = allB (-30000) 30000 cs ∧ Own wr w2.heap.size 2 1 u k ((cs.take k).map iV) ∧ Below w2.heap.size w2 wr) (fun _ v _ => ln.length - (intOf v).toNat)
    case atStart => exact ⟨0, by omega, rfl, by simp, by simpa using Own.lit0 w2 w2.heap.size 2 1 (Nat.le_refl _), by (repeat' (first | (with_reducible exact Below.refl _ _) | (with_reducible assumption) | (with_reducible refine Below.alloc ?_ ?_ _) | (with_reducible refine Below.drew ?_) | (with_reducible refine Below.drewN' ?_ _) | (with_reducible refine Below.setCell ?_ ?_ _) | (refine Below.via ?_ (by with_reducible assumption) ?_) | (with_reducible refine Below.via ?_ (Wd.h _) ?_) | go_size))⟩
    case round =>
      obtain ⟨k, hk, rfl, hF, hO, hbw⟩ := hrel
      have hbH := Lib.hid hbw
      have HF := Lib.hid hF
      have HOW := Lib.hid hO
      have hzr := hbw.size
      have hz2 := HB2.out.size
      clear hF hbw hO
      by_cases hlt : k < ln.length
      · obtain ⟨s, hs⟩ := get_some (show k < x.su.length by omega)
        obtain ⟨l, hl⟩ := get_some (show k < ll.length by omega)
        obtain ⟨u, hu⟩ := get_some (show k < lh.length by omega)
        obtain ⟨a, ha⟩ := get_some (show k < nx.length by omega)
        obtain ⟨o, ho⟩ := get_some (show k < ln.length by omega)
        have hg := (show cs[k]? = some (s + max l (min u a) - a) by rw [HCG.out]; exact csG_get hs hl hu ha)
        have HG := Lib.hid hg
        have HD := Lib.hid (drop_consI hg)
        have el := HBK.out.2.el k l u o hl hu ho
        have bs := HSU.out.2 s (List.mem_of_getElem? hs)
        have ba := HNB.out a (by rw [← HNX.out]; exact List.mem_of_getElem? ha)
        obtain ⟨bo, oo, rfl, hbo, hato⟩ := HW2.out.rd.opened (k := k) (by simp; omega)
        obtain ⟨bl, ol, rfl, hbl, hatl⟩ := HR.out.r1.opened (k := k) (by simp; omega)
        obtain ⟨bu, ou, rfl, hbu, hatu⟩ := HR.out.r2.opened (k := k) (by simp; omega)
        obtain ⟨bs', os, hxB, hbs, hats⟩ := HA.out.r2.opened (k := k) (by simp; omega)
        have t0 := ints_at (hato.below hbH.out hbo) ha
        have t1 := ints_at ((hatl.below HB2.out hbl).below hbH.out (by omega)) hl
        have t2 := ints_at ((hatu.below HB2.out hbu).below hbH.out (by omega)) hu
        have t3 := ints_at ((hats.below HB2.out hbs).below hbH.out (by omega)) hs
        have t4 := bc hbH.out (by omega) C10.out
        have t5 := bc hbH.out (by omega) C11.out
        have t6 := bc hbH.out (by omega) C21.out
        rw [hxB] at t6
        have yl : bl < wr.heap.size := by omega
        have yu : bu < wr.heap.size := by omega
        have yo : bo < wr.heap.size := by omega
        have ys : bs' < wr.heap.size := by omega
        have yb1 : w.heap.size + 1 < wr.heap.size := by omega
        have yb2 : w.heap.size + 2 < wr.heap.size := by omega
        obtain ⟨el1, el2, el3, el4⟩ := el
        obtain ⟨bs1, bs2⟩ := bs
        obtain ⟨ba1, ba2⟩ := ba
        have g1 : (k : Int) < ln.length := by omega
        have g2 : (k : Int) < x.su.length := by omega
        have g3 : (k : Int) < ll.length := by omega
        have g4 : (k : Int) < lh.length := by omega
        have g5 : (k : Int) < nx.length := by omega
        clear hs hl hu ha ho hato hatl hatu hats hxB hg
        rcases six a l u (by omega) with ⟨c1, c2⟩ | ⟨c1, c2⟩ | ⟨c1, c2⟩ | ⟨c1, c2⟩ | ⟨c1, c2⟩ | ⟨c1, c2⟩ | ⟨c1, c2⟩
        · cases hin : inB (s + max l (min u a) - a) (-30000) 30000
          · go_wp2_with fail
            (have qk0 := Wd.cell (by first | assumption | omega | (simp; omega)) t0; have qk1 := Wd.cell (by first | assumption | omega | (simp; omega)) t1; have qk2 := Wd.cell (by first | assumption | omega | (simp; omega)) t2; have qk3 := Wd.cell (by first | assumption | omega | (simp; omega)) t3; have qk4 := Wd.cell (by first | assumption | omega | (simp; omega)) t4; have qk5 := Wd.cell (by first | assumption | omega | (simp; omega)) t5; have qk6 := Wd.cell (by first | assumption | omega | (simp; omega)) t6; (refine wp_region_wd (by kernel_rfl) (by kernel_rfl) ?_); (repeat (go_big_quiet_step ((first | fail)))); (refine wpQuiet_nil ?_); rintro wz ⟨⟨w'', hbwz⟩, hw''⟩; obtain rfl : wz = w'' := hw''; clear qk0 qk1 qk2 qk3 qk4 qk5 qk6; have hzwz := hbwz.size; (try simp at hzwz))
            clear t0 t1 t2 t3 t4 t5 t6
            go_wp2_with ((go_at_call 55; refine (l06Supply_b (inB_eq hin (by omega)) _).mono ?_; rintro e wq ⟨rfl, rfl⟩))
            go_ret2
            refine MadeR.nil (c := 7) ?_ rfl (by have h1 := HB2.out; have h2 := hbH.out; (repeat' (first | (with_reducible exact Below.refl _ _) | (with_reducible assumption) | (with_reducible refine Below.alloc ?_ ?_ _) | (with_reducible refine Below.drew ?_) | (with_reducible refine Below.drewN' ?_ _) | (with_reducible refine Below.setCell ?_ ?_ _) | (refine Below.via ?_ (by with_reducible assumption) ?_) | (with_reducible refine Below.via ?_ (Wd.h _) ?_) | go_size)))
            rw [HRS.out, if_pos (allB_at HG.out hin)]
          · go_wp2_with fail
            (have qk0 := Wd.cell (by first | assumption | omega | (simp; omega)) t0; have qk1 := Wd.cell (by first | assumption | omega | (simp; omega)) t1; have qk2 := Wd.cell (by first | assumption | omega | (simp; omega)) t2; have qk3 := Wd.cell (by first | assumption | omega | (simp; omega)) t3; have qk4 := Wd.cell (by first | assumption | omega | (simp; omega)) t4; have qk5 := Wd.cell (by first | assumption | omega | (simp; omega)) t5; have qk6 := Wd.cell (by first | assumption | omega | (simp; omega)) t6; (refine wp_region_wd (by kernel_rfl) (by kernel_rfl) ?_); (repeat (go_big_quiet_step ((first | fail)))); (refine wpQuiet_nil ?_); rintro wz ⟨⟨w'', hbwz⟩, hw''⟩; obtain rfl : wz = w'' := hw''; clear qk0 qk1 qk2 qk3 qk4 qk5 qk6; have hzwz := hbwz.size; (try simp at hzwz))
            clear t0 t1 t2 t3 t4 t5 t6
            have HOZ := Lib.hid (HOW.out.below hbwz (Nat.le_refl _))
            go_wp2_with (first
              | (go_at_call 55; refine (l06Supply_b (inB_eq hin (by omega)) _).mono ?_; rintro e wq ⟨rfl, rfl⟩)
              | (at_builtin; refine wp_app1 _ rfl (.tmp 62) (.tmp 64) 28 rfl (w2.heap.size) info_i64 Try.underlying28 rfl (by omega) (by omega) _ (k) _ rfl (HOZ.out.alloc _) wz.heap.size 1 1 [iV (s + l - a)] rfl rfl (by intro j u hu; match j, hu with | 0, hu => (simp at hu; subst hu; simp) | j + 1, hu => simp at hu) (by simp [Value.oneCell']) (by omega) (by simp; omega) ?_; intro v' wn hO' hbn; have he := (show s + l - a = s + max l (min u a) - a by omega); rw [he] at hO'; clear he))
            go_roundw
            case rel =>
              refine ⟨k + 1, by omega, by go_num, ?_, ?_, ?_⟩
              · rw [← HF.out, HD.out, allB, hin, Bool.true_and]
              · rw [ints_snoc HG.out]
                exact hO'
              · have h2 := hbH.out
                exact Below.via ((Below.via h2 hbwz (by omega)).alloc (by omega) _) hbn (by omega)
            case measure => simp [intOf]; omega
        · cases hin : inB (s + max l (min u a) - a) (-30000) 30000
          · go_wp2_with fail
            (have qk0 := Wd.cell (by first | assumption | omega | (simp; omega)) t0; have qk1 := Wd.cell (by first | assumption | omega | (simp; omega)) t1; have qk2 := Wd.cell (by first | assumption | omega | (simp; omega)) t2; have qk3 := Wd.cell (by first | assumption | omega | (simp; omega)) t3; have qk4 := Wd.cell (by first | assumption | omega | (simp; omega)) t4; have qk5 := Wd.cell (by first | assumption | omega | (simp; omega)) t5; have qk6 := Wd.cell (by first | assumption | omega | (simp; omega)) t6; (refine wp_region_wd (by kernel_rfl) (by kernel_rfl) ?_); (repeat (go_big_quiet_step ((first | fail)))); (refine wpQuiet_nil ?_); rintro wz ⟨⟨w'', hbwz⟩, hw''⟩; obtain rfl : wz = w'' := hw''; clear qk0 qk1 qk2 qk3 qk4 qk5 qk6; have hzwz := hbwz.size; (try simp at hzwz))
            clear t0 t1 t2 t3 t4 t5 t6
            go_wp2_with ((go_at_call 55; refine (l06Supply_b (inB_eq hin (by omega)) _).mono ?_; rintro e wq ⟨rfl, rfl⟩))
            go_ret2
            refine MadeR.nil (c := 7) ?_ rfl (by have h1 := HB2.out; have h2 := hbH.out; (repeat' (first | (with_reducible exact Below.refl _ _) | (with_reducible assumption) | (with_reducible refine Below.alloc ?_ ?_ _) | (with_reducible refine Below.drew ?_) | (with_reducible refine Below.drewN' ?_ _) | (with_reducible refine Below.setCell ?_ ?_ _) | (refine Below.via ?_ (by with_reducible assumption) ?_) | (with_reducible refine Below.via ?_ (Wd.h _) ?_) | go_size)))
            rw [HRS.out, if_pos (allB_at HG.out hin)]
          · go_wp2_with fail
            (have qk0 := Wd.cell (by first | assumption | omega | (simp; omega)) t0; have qk1 := Wd.cell (by first | assumption | omega | (simp; omega)) t1; have qk2 := Wd.cell (by first | assumption | omega | (simp; omega)) t2; have qk3 := Wd.cell (by first | assumption | omega | (simp; omega)) t3; have qk4 := Wd.cell (by first | assumption | omega | (simp; omega)) t4; have qk5 := Wd.cell (by first | assumption | omega | (simp; omega)) t5; have qk6 := Wd.cell (by first | assumption | omega | (simp; omega)) t6; (refine wp_region_wd (by kernel_rfl) (by kernel_rfl) ?_); (repeat (go_big_quiet_step ((first | fail)))); (refine wpQuiet_nil ?_); rintro wz ⟨⟨w'', hbwz⟩, hw''⟩; obtain rfl : wz = w'' := hw''; clear qk0 qk1 qk2 qk3 qk4 qk5 qk6; have hzwz := hbwz.size; (try simp at hzwz))
            clear t0 t1 t2 t3 t4 t5 t6
            have HOZ := Lib.hid (HOW.out.below hbwz (Nat.le_refl _))
            go_wp2_with (first
              | (go_at_call 55; refine (l06Supply_b (inB_eq hin (by omega)) _).mono ?_; rintro e wq ⟨rfl, rfl⟩)
              | (at_builtin; refine wp_app1 _ rfl (.tmp 62) (.tmp 64) 28 rfl (w2.heap.size) info_i64 Try.underlying28 rfl (by omega) (by omega) _ (k) _ rfl (HOZ.out.alloc _) wz.heap.size 1 1 [iV (s + u - a)] rfl rfl (by intro j u hu; match j, hu with | 0, hu => (simp at hu; subst hu; simp) | j + 1, hu => simp at hu) (by simp [Value.oneCell']) (by omega) (by simp; omega) ?_; intro v' wn hO' hbn; have he := (show s + u - a = s + max l (min u a) - a by omega); rw [he] at hO'; clear he))
            go_roundw
            case rel =>
              refine ⟨k + 1, by omega, by go_num, ?_, ?_, ?_⟩
              · rw [← HF.out, HD.out, allB, hin, Bool.true_and]
              · rw [ints_snoc HG.out]
                exact hO'
              · have h2 := hbH.out
                exact Below.via ((Below.via h2 hbwz (by omega)).alloc (by omega) _) hbn (by omega)
            case measure => simp [intOf]; omega
        · subst c2
          cases hin : inB (s + max l (min l a) - a) (-30000) 30000
          · go_wp2_with fail
            (have qk0 := Wd.cell (by first | assumption | omega | (simp; omega)) t0; have qk1 := Wd.cell (by first | assumption | omega | (simp; omega)) t1; have qk2 := Wd.cell (by first | assumption | omega | (simp; omega)) t2; have qk3 := Wd.cell (by first | assumption | omega | (simp; omega)) t3; have qk4 := Wd.cell (by first | assumption | omega | (simp; omega)) t4; have qk5 := Wd.cell (by first | assumption | omega | (simp; omega)) t5; have qk6 := Wd.cell (by first | assumption | omega | (simp; omega)) t6; (refine wp_region_wd (by kernel_rfl) (by kernel_rfl) ?_); (repeat (go_big_quiet_step ((first | fail)))); (refine wpQuiet_nil ?_); rintro wz ⟨⟨w'', hbwz⟩, hw''⟩; obtain rfl : wz = w'' := hw''; clear qk0 qk1 qk2 qk3 qk4 qk5 qk6; have hzwz := hbwz.size; (try simp at hzwz))
            clear t0 t1 t2 t3 t4 t5 t6
            go_wp2_with ((go_at_call 55; refine (l06Supply_b (inB_eq hin (by omega)) _).mono ?_; rintro e wq ⟨rfl, rfl⟩))
            go_ret2
            refine MadeR.nil (c := 7) ?_ rfl (by have h1 := HB2.out; have h2 := hbH.out; (repeat' (first | (with_reducible exact Below.refl _ _) | (with_reducible assumption) | (with_reducible refine Below.alloc ?_ ?_ _) | (with_reducible refine Below.drew ?_) | (with_reducible refine Below.drewN' ?_ _) | (with_reducible refine Below.setCell ?_ ?_ _) | (refine Below.via ?_ (by with_reducible assumption) ?_) | (with_reducible refine Below.via ?_ (Wd.h _) ?_) | go_size)))
            rw [HRS.out, if_pos (allB_at HG.out hin)]
          · go_wp2_with fail
            (have qk0 := Wd.cell (by first | assumption | omega | (simp; omega)) t0; have qk1 := Wd.cell (by first | assumption | omega | (simp; omega)) t1; have qk2 := Wd.cell (by first | assumption | omega | (simp; omega)) t2; have qk3 := Wd.cell (by first | assumption | omega | (simp; omega)) t3; have qk4 := Wd.cell (by first | assumption | omega | (simp; omega)) t4; have qk5 := Wd.cell (by first | assumption | omega | (simp; omega)) t5; have qk6 := Wd.cell (by first | assumption | omega | (simp; omega)) t6; (refine wp_region_wd (by kernel_rfl) (by kernel_rfl) ?_); (repeat (go_big_quiet_step ((first | fail)))); (refine wpQuiet_nil ?_); rintro wz ⟨⟨w'', hbwz⟩, hw''⟩; obtain rfl : wz = w'' := hw''; clear qk0 qk1 qk2 qk3 qk4 qk5 qk6; have hzwz := hbwz.size; (try simp at hzwz))
            clear t0 t1 t2 t3 t4 t5 t6
            have HOZ := Lib.hid (HOW.out.below hbwz (Nat.le_refl _))
            go_wp2_with (first
              | (go_at_call 55; refine (l06Supply_b (inB_eq hin (by omega)) _).mono ?_; rintro e wq ⟨rfl, rfl⟩)
              | (at_builtin; refine wp_app1 _ rfl (.tmp 62) (.tmp 64) 28 rfl (w2.heap.size) info_i64 Try.underlying28 rfl (by omega) (by omega) _ (k) _ rfl (HOZ.out.alloc _) wz.heap.size 1 1 [iV (s + l - a)] rfl rfl (by intro j u hu; match j, hu with | 0, hu => (simp at hu; subst hu; simp) | j + 1, hu => simp at hu) (by simp [Value.oneCell']) (by omega) (by simp; omega) ?_; intro v' wn hO' hbn; have he := (show s + l - a = s + max l (min l a) - a by omega); rw [he] at hO'; clear he))
            go_roundw
            case rel =>
              refine ⟨k + 1, by omega, by go_num, ?_, ?_, ?_⟩
              · rw [← HF.out, HD.out, allB, hin, Bool.true_and]
              · rw [ints_snoc HG.out]
                exact hO'
              · have h2 := hbH.out
                exact Below.via ((Below.via h2 hbwz (by omega)).alloc (by omega) _) hbn (by omega)
            case measure => simp [intOf]; omega
        · cases hin : inB (s + max l (min u a) - a) (-30000) 30000
          · go_wp2_with fail
            (have qk0 := Wd.cell (by first | assumption | omega | (simp; omega)) t0; have qk1 := Wd.cell (by first | assumption | omega | (simp; omega)) t1; have qk2 := Wd.cell (by first | assumption | omega | (simp; omega)) t2; have qk3 := Wd.cell (by first | assumption | omega | (simp; omega)) t3; have qk4 := Wd.cell (by first | assumption | omega | (simp; omega)) t4; have qk5 := Wd.cell (by first | assumption | omega | (simp; omega)) t5; have qk6 := Wd.cell (by first | assumption | omega | (simp; omega)) t6; (refine wp_region_wd (by kernel_rfl) (by kernel_rfl) ?_); (repeat (go_big_quiet_step ((first | fail)))); (refine wpQuiet_nil ?_); rintro wz ⟨⟨w'', hbwz⟩, hw''⟩; obtain rfl : wz = w'' := hw''; clear qk0 qk1 qk2 qk3 qk4 qk5 qk6; have hzwz := hbwz.size; (try simp at hzwz))
            clear t0 t1 t2 t3 t4 t5 t6
            go_wp2_with ((go_at_call 55; refine (l06Supply_b (inB_eq hin (by omega)) _).mono ?_; rintro e wq ⟨rfl, rfl⟩))
            go_ret2
            refine MadeR.nil (c := 7) ?_ rfl (by have h1 := HB2.out; have h2 := hbH.out; (repeat' (first | (with_reducible exact Below.refl _ _) | (with_reducible assumption) | (with_reducible refine Below.alloc ?_ ?_ _) | (with_reducible refine Below.drew ?_) | (with_reducible refine Below.drewN' ?_ _) | (with_reducible refine Below.setCell ?_ ?_ _) | (refine Below.via ?_ (by with_reducible assumption) ?_) | (with_reducible refine Below.via ?_ (Wd.h _) ?_) | go_size)))
            rw [HRS.out, if_pos (allB_at HG.out hin)]
          · go_wp2_with fail
            (have qk0 := Wd.cell (by first | assumption | omega | (simp; omega)) t0; have qk1 := Wd.cell (by first | assumption | omega | (simp; omega)) t1; have qk2 := Wd.cell (by first | assumption | omega | (simp; omega)) t2; have qk3 := Wd.cell (by first | assumption | omega | (simp; omega)) t3; have qk4 := Wd.cell (by first | assumption | omega | (simp; omega)) t4; have qk5 := Wd.cell (by first | assumption | omega | (simp; omega)) t5; have qk6 := Wd.cell (by first | assumption | omega | (simp; omega)) t6; (refine wp_region_wd (by kernel_rfl) (by kernel_rfl) ?_); (repeat (go_big_quiet_step ((first | fail)))); (refine wpQuiet_nil ?_); rintro wz ⟨⟨w'', hbwz⟩, hw''⟩; obtain rfl : wz = w'' := hw''; clear qk0 qk1 qk2 qk3 qk4 qk5 qk6; have hzwz := hbwz.size; (try simp at hzwz))
            clear t0 t1 t2 t3 t4 t5 t6
            have HOZ := Lib.hid (HOW.out.below hbwz (Nat.le_refl _))
            go_wp2_with (first
              | (go_at_call 55; refine (l06Supply_b (inB_eq hin (by omega)) _).mono ?_; rintro e wq ⟨rfl, rfl⟩)
              | (at_builtin; refine wp_app1 _ rfl (.tmp 62) (.tmp 64) 28 rfl (w2.heap.size) info_i64 Try.underlying28 rfl (by omega) (by omega) _ (k) _ rfl (HOZ.out.alloc _) wz.heap.size 1 1 [iV (s)] rfl rfl (by intro j u hu; match j, hu with | 0, hu => (simp at hu; subst hu; simp) | j + 1, hu => simp at hu) (by simp [Value.oneCell']) (by omega) (by simp; omega) ?_; intro v' wn hO' hbn; have he := (show s = s + max l (min u a) - a by omega); rw [he] at hO'; clear he))
            go_roundw
            case rel =>
              refine ⟨k + 1, by omega, by go_num, ?_, ?_, ?_⟩
              · rw [← HF.out, HD.out, allB, hin, Bool.true_and]
              · rw [ints_snoc HG.out]
                exact hO'
              · have h2 := hbH.out
                exact Below.via ((Below.via h2 hbwz (by omega)).alloc (by omega) _) hbn (by omega)
            case measure => simp [intOf]; omega
        · subst c1
          cases hin : inB (s + max a (min u a) - a) (-30000) 30000
          · go_wp2_with fail
            (have qk0 := Wd.cell (by first | assumption | omega | (simp; omega)) t0; have qk1 := Wd.cell (by first | assumption | omega | (simp; omega)) t1; have qk2 := Wd.cell (by first | assumption | omega | (simp; omega)) t2; have qk3 := Wd.cell (by first | assumption | omega | (simp; omega)) t3; have qk4 := Wd.cell (by first | assumption | omega | (simp; omega)) t4; have qk5 := Wd.cell (by first | assumption | omega | (simp; omega)) t5; have qk6 := Wd.cell (by first | assumption | omega | (simp; omega)) t6; (refine wp_region_wd (by kernel_rfl) (by kernel_rfl) ?_); (repeat (go_big_quiet_step ((first | fail)))); (refine wpQuiet_nil ?_); rintro wz ⟨⟨w'', hbwz⟩, hw''⟩; obtain rfl : wz = w'' := hw''; clear qk0 qk1 qk2 qk3 qk4 qk5 qk6; have hzwz := hbwz.size; (try simp at hzwz))
            clear t0 t1 t2 t3 t4 t5 t6
            go_wp2_with ((go_at_call 55; refine (l06Supply_b (inB_eq hin (by omega)) _).mono ?_; rintro e wq ⟨rfl, rfl⟩))
            go_ret2
            refine MadeR.nil (c := 7) ?_ rfl (by have h1 := HB2.out; have h2 := hbH.out; (repeat' (first | (with_reducible exact Below.refl _ _) | (with_reducible assumption) | (with_reducible refine Below.alloc ?_ ?_ _) | (with_reducible refine Below.drew ?_) | (with_reducible refine Below.drewN' ?_ _) | (with_reducible refine Below.setCell ?_ ?_ _) | (refine Below.via ?_ (by with_reducible assumption) ?_) | (with_reducible refine Below.via ?_ (Wd.h _) ?_) | go_size)))
            rw [HRS.out, if_pos (allB_at HG.out hin)]
          · go_wp2_with fail
            (have qk0 := Wd.cell (by first | assumption | omega | (simp; omega)) t0; have qk1 := Wd.cell (by first | assumption | omega | (simp; omega)) t1; have qk2 := Wd.cell (by first | assumption | omega | (simp; omega)) t2; have qk3 := Wd.cell (by first | assumption | omega | (simp; omega)) t3; have qk4 := Wd.cell (by first | assumption | omega | (simp; omega)) t4; have qk5 := Wd.cell (by first | assumption | omega | (simp; omega)) t5; have qk6 := Wd.cell (by first | assumption | omega | (simp; omega)) t6; (refine wp_region_wd (by kernel_rfl) (by kernel_rfl) ?_); (repeat (go_big_quiet_step ((first | fail)))); (refine wpQuiet_nil ?_); rintro wz ⟨⟨w'', hbwz⟩, hw''⟩; obtain rfl : wz = w'' := hw''; clear qk0 qk1 qk2 qk3 qk4 qk5 qk6; have hzwz := hbwz.size; (try simp at hzwz))
            clear t0 t1 t2 t3 t4 t5 t6
            have HOZ := Lib.hid (HOW.out.below hbwz (Nat.le_refl _))
            go_wp2_with (first
              | (go_at_call 55; refine (l06Supply_b (inB_eq hin (by omega)) _).mono ?_; rintro e wq ⟨rfl, rfl⟩)
              | (at_builtin; refine wp_app1 _ rfl (.tmp 62) (.tmp 64) 28 rfl (w2.heap.size) info_i64 Try.underlying28 rfl (by omega) (by omega) _ (k) _ rfl (HOZ.out.alloc _) wz.heap.size 1 1 [iV (s)] rfl rfl (by intro j u hu; match j, hu with | 0, hu => (simp at hu; subst hu; simp) | j + 1, hu => simp at hu) (by simp [Value.oneCell']) (by omega) (by simp; omega) ?_; intro v' wn hO' hbn; have he := (show s = s + max a (min u a) - a by omega); rw [he] at hO'; clear he))
            go_roundw
            case rel =>
              refine ⟨k + 1, by omega, by go_num, ?_, ?_, ?_⟩
              · rw [← HF.out, HD.out, allB, hin, Bool.true_and]
              · rw [ints_snoc HG.out]
                exact hO'
              · have h2 := hbH.out
                exact Below.via ((Below.via h2 hbwz (by omega)).alloc (by omega) _) hbn (by omega)
            case measure => simp [intOf]; omega
        · subst c1
          cases hin : inB (s + max l (min a a) - a) (-30000) 30000
          · go_wp2_with fail
            (have qk0 := Wd.cell (by first | assumption | omega | (simp; omega)) t0; have qk1 := Wd.cell (by first | assumption | omega | (simp; omega)) t1; have qk2 := Wd.cell (by first | assumption | omega | (simp; omega)) t2; have qk3 := Wd.cell (by first | assumption | omega | (simp; omega)) t3; have qk4 := Wd.cell (by first | assumption | omega | (simp; omega)) t4; have qk5 := Wd.cell (by first | assumption | omega | (simp; omega)) t5; have qk6 := Wd.cell (by first | assumption | omega | (simp; omega)) t6; (refine wp_region_wd (by kernel_rfl) (by kernel_rfl) ?_); (repeat (go_big_quiet_step ((first | fail)))); (refine wpQuiet_nil ?_); rintro wz ⟨⟨w'', hbwz⟩, hw''⟩; obtain rfl : wz = w'' := hw''; clear qk0 qk1 qk2 qk3 qk4 qk5 qk6; have hzwz := hbwz.size; (try simp at hzwz))
            clear t0 t1 t2 t3 t4 t5 t6
            go_wp2_with ((go_at_call 55; refine (l06Supply_b (inB_eq hin (by omega)) _).mono ?_; rintro e wq ⟨rfl, rfl⟩))
            go_ret2
            refine MadeR.nil (c := 7) ?_ rfl (by have h1 := HB2.out; have h2 := hbH.out; (repeat' (first | (with_reducible exact Below.refl _ _) | (with_reducible assumption) | (with_reducible refine Below.alloc ?_ ?_ _) | (with_reducible refine Below.drew ?_) | (with_reducible refine Below.drewN' ?_ _) | (with_reducible refine Below.setCell ?_ ?_ _) | (refine Below.via ?_ (by with_reducible assumption) ?_) | (with_reducible refine Below.via ?_ (Wd.h _) ?_) | go_size)))
            rw [HRS.out, if_pos (allB_at HG.out hin)]
          · go_wp2_with fail
            (have qk0 := Wd.cell (by first | assumption | omega | (simp; omega)) t0; have qk1 := Wd.cell (by first | assumption | omega | (simp; omega)) t1; have qk2 := Wd.cell (by first | assumption | omega | (simp; omega)) t2; have qk3 := Wd.cell (by first | assumption | omega | (simp; omega)) t3; have qk4 := Wd.cell (by first | assumption | omega | (simp; omega)) t4; have qk5 := Wd.cell (by first | assumption | omega | (simp; omega)) t5; have qk6 := Wd.cell (by first | assumption | omega | (simp; omega)) t6; (refine wp_region_wd (by kernel_rfl) (by kernel_rfl) ?_); (repeat (go_big_quiet_step ((first | fail)))); (refine wpQuiet_nil ?_); rintro wz ⟨⟨w'', hbwz⟩, hw''⟩; obtain rfl : wz = w'' := hw''; clear qk0 qk1 qk2 qk3 qk4 qk5 qk6; have hzwz := hbwz.size; (try simp at hzwz))
            clear t0 t1 t2 t3 t4 t5 t6
            have HOZ := Lib.hid (HOW.out.below hbwz (Nat.le_refl _))
            go_wp2_with (first
              | (go_at_call 55; refine (l06Supply_b (inB_eq hin (by omega)) _).mono ?_; rintro e wq ⟨rfl, rfl⟩)
              | (at_builtin; refine wp_app1 _ rfl (.tmp 62) (.tmp 64) 28 rfl (w2.heap.size) info_i64 Try.underlying28 rfl (by omega) (by omega) _ (k) _ rfl (HOZ.out.alloc _) wz.heap.size 1 1 [iV (s)] rfl rfl (by intro j u hu; match j, hu with | 0, hu => (simp at hu; subst hu; simp) | j + 1, hu => simp at hu) (by simp [Value.oneCell']) (by omega) (by simp; omega) ?_; intro v' wn hO' hbn; have he := (show s = s + max l (min a a) - a by omega); rw [he] at hO'; clear he))
            go_roundw
            case rel =>
              refine ⟨k + 1, by omega, by go_num, ?_, ?_, ?_⟩
              · rw [← HF.out, HD.out, allB, hin, Bool.true_and]
              · rw [ints_snoc HG.out]
                exact hO'
              · have h2 := hbH.out
                exact Below.via ((Below.via h2 hbwz (by omega)).alloc (by omega) _) hbn (by omega)
            case measure => simp [intOf]; omega
        · subst c1
          subst c2
          cases hin : inB (s + max a (min a a) - a) (-30000) 30000
          · go_wp2_with fail
            (have qk0 := Wd.cell (by first | assumption | omega | (simp; omega)) t0; have qk1 := Wd.cell (by first | assumption | omega | (simp; omega)) t1; have qk2 := Wd.cell (by first | assumption | omega | (simp; omega)) t2; have qk3 := Wd.cell (by first | assumption | omega | (simp; omega)) t3; have qk4 := Wd.cell (by first | assumption | omega | (simp; omega)) t4; have qk5 := Wd.cell (by first | assumption | omega | (simp; omega)) t5; have qk6 := Wd.cell (by first | assumption | omega | (simp; omega)) t6; (refine wp_region_wd (by kernel_rfl) (by kernel_rfl) ?_); (repeat (go_big_quiet_step ((first | fail)))); (refine wpQuiet_nil ?_); rintro wz ⟨⟨w'', hbwz⟩, hw''⟩; obtain rfl : wz = w'' := hw''; clear qk0 qk1 qk2 qk3 qk4 qk5 qk6; have hzwz := hbwz.size; (try simp at hzwz))
            clear t0 t1 t2 t3 t4 t5 t6
            go_wp2_with ((go_at_call 55; refine (l06Supply_b (inB_eq hin (by omega)) _).mono ?_; rintro e wq ⟨rfl, rfl⟩))
            go_ret2
            refine MadeR.nil (c := 7) ?_ rfl (by have h1 := HB2.out; have h2 := hbH.out; (repeat' (first | (with_reducible exact Below.refl _ _) | (with_reducible assumption) | (with_reducible refine Below.alloc ?_ ?_ _) | (with_reducible refine Below.drew ?_) | (with_reducible refine Below.drewN' ?_ _) | (with_reducible refine Below.setCell ?_ ?_ _) | (refine Below.via ?_ (by with_reducible assumption) ?_) | (with_reducible refine Below.via ?_ (Wd.h _) ?_) | go_size)))
            rw [HRS.out, if_pos (allB_at HG.out hin)]
          · go_wp2_with fail
            (have qk0 := Wd.cell (by first | assumption | omega | (simp; omega)) t0; have qk1 := Wd.cell (by first | assumption | omega | (simp; omega)) t1; have qk2 := Wd.cell (by first | assumption | omega | (simp; omega)) t2; have qk3 := Wd.cell (by first | assumption | omega | (simp; omega)) t3; have qk4 := Wd.cell (by first | assumption | omega | (simp; omega)) t4; have qk5 := Wd.cell (by first | assumption | omega | (simp; omega)) t5; have qk6 := Wd.cell (by first | assumption | omega | (simp; omega)) t6; (refine wp_region_wd (by kernel_rfl) (by kernel_rfl) ?_); (repeat (go_big_quiet_step ((first | fail)))); (refine wpQuiet_nil ?_); rintro wz ⟨⟨w'', hbwz⟩, hw''⟩; obtain rfl : wz = w'' := hw''; clear qk0 qk1 qk2 qk3 qk4 qk5 qk6; have hzwz := hbwz.size; (try simp at hzwz))
            clear t0 t1 t2 t3 t4 t5 t6
            have HOZ := Lib.hid (HOW.out.below hbwz (Nat.le_refl _))
            go_wp2_with (first
              | (go_at_call 55; refine (l06Supply_b (inB_eq hin (by omega)) _).mono ?_; rintro e wq ⟨rfl, rfl⟩)
              | (at_builtin; refine wp_app1 _ rfl (.tmp 62) (.tmp 64) 28 rfl (w2.heap.size) info_i64 Try.underlying28 rfl (by omega) (by omega) _ (k) _ rfl (HOZ.out.alloc _) wz.heap.size 1 1 [iV (s)] rfl rfl (by intro j u hu; match j, hu with | 0, hu => (simp at hu; subst hu; simp) | j + 1, hu => simp at hu) (by simp [Value.oneCell']) (by omega) (by simp; omega) ?_; intro v' wn hO' hbn; have he := (show s = s + max a (min a a) - a by omega); rw [he] at hO'; clear he))
            go_roundw
            case rel =>
              refine ⟨k + 1, by omega, by go_num, ?_, ?_, ?_⟩
              · rw [← HF.out, HD.out, allB, hin, Bool.true_and]
              · rw [ints_snoc HG.out]
                exact hO'
              · have h2 := hbH.out
                exact Below.via ((Below.via h2 hbwz (by omega)).alloc (by omega) _) hbn (by omega)
            case measure => simp [intOf]; omega
      · go_wp2
        go_ret2
        obtain ⟨B1, cc, rfl, hnc, hw⟩ := HOW.out.lt_
        have ht : allB (-30000) 30000 cs = true := by rw [← HF.out, drop_endI (by omega), allB]
        rw [List.take_of_length_le (by omega)] at hw
        refine MadeR.ofWr (l := cs) ?_ (by omega) hnc (hw.lower (by omega)) (by have h1 := HB2.out; have h2 := hbH.out; (repeat' (first | (with_reducible exact Below.refl _ _) | (with_reducible assumption) | (with_reducible refine Below.alloc ?_ ?_ _) | (with_reducible refine Below.drew ?_) | (with_reducible refine Below.drewN' ?_ _) | (with_reducible refine Below.setCell ?_ ?_ _) | (refine Below.via ?_ (by with_reducible assumption) ?_) | (with_reducible refine Below.via ?_ (Wd.h _) ?_) | go_size)))
        rw [HRS.out, if_neg (by simp [ht])]
  · have b0 : (hrC N ll lh ln x != 0) = true := by simp [h0]
    have HRR := Lib.hid (show csR N ll lh ln x = ([], hrC N ll lh ln x) by simp [csR, h0])
    clear h0
    go_wp2
    go_ret2
    exact MadeR.nil HRR.out rfl (by (repeat' (first | (with_reducible exact Below.refl _ _) | (with_reducible assumption) | (with_reducible refine Below.alloc ?_ ?_ _) | (with_reducible refine Below.drew ?_) | (with_reducible refine Below.drewN' ?_ _) | (with_reducible refine Below.setCell ?_ ?_ _) | (refine Below.via ?_ (by with_reducible assumption) ?_) | (with_reducible refine Below.via ?_ (Wd.h _) ?_) | go_size)))
end Go.Proofs.Ytbkeijhlobdkeaa
