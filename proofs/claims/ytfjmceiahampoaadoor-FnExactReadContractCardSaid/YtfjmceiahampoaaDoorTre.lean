/- Lists of numbers read, texts cut: spec.l03Numbers, spec.l01Split, strings.Split. -/
import Derived.Test.YtfjmceiahampoaaDoorTrd
namespace Go.Proofs.YtfjmceiahampoaaDoor
set_option linter.unusedVariables false
set_option linter.unusedSimpArgs false
open Go.RowKit
set_option maxRecDepth 100000 in
set_option maxHeartbeats 4000000 in
theorem spec_l03Numbers (A : Option Addr) (c : Nat) (ws : List ByteArray) (w : World) (h : Rd w A (ws.map sV)) (hl : ws.length ≤ 1048601) (hm : ∀ s ∈ ws, Mod s) :
    Calls Tryd.prog 27 #[.slice A ws.length c] w (NumsR (mapO rdV (ws.map bl)) w) := by
  have H := Lib.hid h
  have HM := Lib.hid hm
  clear h hm
  go_enter Tryd.func27, Tryd.ntmps27
  go_wp2
  go_loopw [4, 5] (fun u v wr => ∃ (k : Nat) (acc : List Int), k ≤ ws.length ∧ v = .int .i64 k ∧ acc.length = k ∧ mapO rdV ((ws.take k).map bl) = some acc ∧ Own wr w.heap.size 2 1 u acc.length (acc.map iV) ∧ Below w.heap.size w wr) (fun _ v _ => ws.length - (intOf v).toNat)
  case atStart => exact ⟨0, [], by omega, rfl, rfl, rfl, by simpa using Own.lit0 w w.heap.size 2 1 (Nat.le_refl _), (Below.refl _ _).alloc (Nat.le_refl _) _⟩
  case round =>
    obtain ⟨k, acc, hk, rfl, hac, hF, hO, hbw⟩ := hrel
    have HO := Lib.hid hO
    have HF := Lib.hid hF
    have hbH := Lib.hid hbw
    clear hF hO
    by_cases hlt : k < ws.length
    · obtain ⟨s, hs⟩ := get_some hlt
      obtain ⟨b, off, rfl, hb, hat⟩ := H.out.opened (k := k) (by simpa using hlt)
      have t0 := words_at (hat.below hbw hb) hs
      have HS := Lib.hid hs
      have HMS := HM.out s (List.mem_of_getElem? hs)
      clear hs hat hbw
      go_wp2_with fail
      refine (spec_l01Value s _ HMS).mono ?_
      rintro e wm ⟨v, rfl, hvv, hbm⟩
      have HB2 := Lib.hid (Below.via hbH.out hbm hbH.out.size)
      have HO2 := Lib.hid (HO.out.below hbm (Nat.le_refl _))
      have hzz : w.heap.size ≤ wm.heap.size := HB2.out.size
      clear hbm
      cases hv : rdV (bl s) with
      | none =>
        have HV := Lib.hid hv
        clear hv hvv
        go_wp2
        go_ret2
        exact NumsR.none_ (mapO_no HS.out HV.out) ⟨rfl, HB2.out⟩
      | some n =>
        obtain rfl := hvv n hv
        have HV := Lib.hid hv
        clear hv hvv
        go_wp2_with ((at_builtin; refine wp_app1 _ rfl (.tmp 25) (.tmp 27) 40 rfl (w.heap.size) info_i64 Tryd.underlying40 rfl (by omega) (by omega) _ (acc.length) _ rfl (HO2.out.alloc _) wm.heap.size 1 1 [iV (v)] rfl rfl (by intro j u hu; match j, hu with | 0, hu => (simp at hu; subst hu; simp) | j + 1, hu => simp at hu) (by simp [Value.oneCell']) (by omega) (by simp; omega) ?_; intro v' wn hO' hbn))
        go_roundw
        case rel =>
          refine ⟨k + 1, acc ++ [v], by omega, by go_num, by simp [hac], mapO_at HS.out HF.out HV.out, by simpa using hO', ?_⟩
          have h1 := HB2.out
          (repeat' (first | (with_reducible exact Below.refl _ _) | (with_reducible assumption) | (with_reducible refine Below.alloc ?_ ?_ _) | (with_reducible refine Below.drew ?_) | (with_reducible refine Below.drewN' ?_ _) | (with_reducible refine Below.setCell ?_ ?_ _) | (refine Below.via ?_ (by with_reducible assumption) ?_) | (with_reducible refine Below.via ?_ (Wd.h _) ?_) | go_size))
        case measure => simp [intOf]; try omega
    · have hkl : k = ws.length := by omega
      obtain ⟨A', c', rfl, -, hr, -⟩ := HO.out.val
      have HR := Lib.hid hr
      clear hr
      go_wp2
      go_ret2
      refine NumsR.some_ (l := acc) ?_ ⟨A', c', rfl, HR.out, hbH.out⟩
      have := HF.out
      rw [List.take_of_length_le (by omega)] at this
      exact this
theorem cut_hit {S : List UInt8} {c : UInt8} {fr k : Nat} {D R : List (List UInt8)} (hx : S[k]? = some c) (h : D ++ glue ((S.drop fr).take (k - fr)) (spl c (S.drop k)) = R) :
    (D ++ [(S.drop fr).take (k - fr)]) ++ glue ((S.drop (k + 1)).take (k + 1 - (k + 1))) (spl c (S.drop (k + 1))) = R := by
  rw [← h, drop_consI hx, spl_cons_eq, Nat.sub_self, List.take_zero, glue_nil (spl_ne c _)]
  simp [glue]
theorem cut_miss {S : List UInt8} {c x : UInt8} {fr k : Nat} {D R : List (List UInt8)} (hx : S[k]? = some x) (hc : x ≠ c) (hf : fr ≤ k) (h : D ++ glue ((S.drop fr).take (k - fr)) (spl c (S.drop k)) = R) :
    D ++ glue ((S.drop fr).take (k + 1 - fr)) (spl c (S.drop (k + 1))) = R := by
  have e : (S.drop fr)[k - fr]? = some x := by rw [List.getElem?_drop, show fr + (k - fr) = k by omega]; exact hx
  rw [← h, drop_consI hx, spl_cons_ne hc, glue_glue _ _ _ (spl_ne c _), show k + 1 - fr = (k - fr) + 1 by omega, List.take_add_one, e]
  rfl
theorem cut_end {S : List UInt8} {c : UInt8} {fr : Nat} {D R : List (List UInt8)} (h : D ++ glue ((S.drop fr).take (S.length - fr)) (spl c (S.drop S.length)) = R) :
    D ++ [(S.drop fr).take (S.length - fr)] = R := by
  rw [← h, List.drop_length]; simp [spl, glue]
theorem bl_extract (s : ByteArray) (a b : Nat) : bl (s.extract a b) = ((bl s).drop a).take (b - a) := by
  show (s.extract a b).data.toList = _
  rw [ByteArray.data_extract, Array.toList_extract, List.extract_eq_take_drop]
theorem spl_part : ∀ (c : UInt8) (l x : List UInt8), x ∈ spl c l → x.length ≤ l.length
  | c, [], x, h => by simp [spl] at h; subst h; simp
  | c, b :: l, x, h => by
    have ih := spl_part c l
    unfold spl at h
    split at h
    · rcases List.mem_cons.1 h with rfl | h'
      · simp
      · have := ih x h'; simp; omega
    · cases e : spl c l with
      | nil => exact absurd e (spl_ne c l)
      | cons y r =>
        rw [e] at h ih
        rcases List.mem_cons.1 h with rfl | h'
        · have := ih y (by simp); simp; omega
        · have := ih x (by simp [h']); simp; omega
/-- the words of a text, as it was cut -/
structure Cut (s : ByteArray) (c : UInt8) (ws : List ByteArray) : Prop where
  eq : ws.map bl = spl c (bl s)
theorem Cut.len {s : ByteArray} {c : UInt8} {ws : List ByteArray} (h : Cut s c ws) (hs : Mod s) : ws.length ≤ 1048601 := by
  have h1 := congrArg List.length h.eq
  have h2 := spl_length c (bl s)
  rw [List.length_map] at h1
  rw [bl_len] at h2
  unfold Mod at hs; omega
theorem Cut.mod {s : ByteArray} {c : UInt8} {ws : List ByteArray} (h : Cut s c ws) (hs : Mod s) : ∀ x ∈ ws, Mod x := by
  intro x hx
  have h1 : bl x ∈ spl c (bl s) := by rw [← h.eq]; exact List.mem_map.2 ⟨x, hx, rfl⟩
  have h2 := spl_part c _ _ h1
  rw [bl_len, bl_len] at h2
  unfold Mod at hs ⊢; omega
set_option maxRecDepth 100000 in
set_option maxHeartbeats 4000000 in
theorem spec_l01Split (s : ByteArray) (c : UInt8) (cn : Int) (w : World) (hc : cn = c.toNat) (hs : Mod s) :
    Calls Tryd.prog 28 #[.string s, .int .u8 cn] w fun e w' => ∃ A d ws, e = .returned (.slice A ws.length d) ∧ Cut s c ws ∧ Rd w' A (ws.map sV) ∧ Below w.heap.size w w' := by
  unfold Mod at hs
  have HCN := Lib.hid hc
  clear hc
  go_enter Tryd.func28, Tryd.ntmps28
  go_wp2
  go_loopw [5, 6, 7] (fun u f v wr => ∃ (k fr : Nat) (D : List ByteArray), k ≤ s.size + 1 ∧ fr ≤ k ∧ v = .int .i64 k ∧ f = .int .i64 fr ∧ D.length ≤ k ∧ (k ≤ s.size → D.map bl ++ glue (((bl s).drop fr).take (k - fr)) (spl c ((bl s).drop k)) = spl c (bl s)) ∧ (k = s.size + 1 → D.map bl = spl c (bl s)) ∧ Own wr w.heap.size 9 1 u D.length (D.map sV) ∧ Below w.heap.size w wr) (fun _ _ v _ => s.size + 1 - (intOf v).toNat)
  case atStart => exact ⟨0, 0, [], by omega, by omega, rfl, rfl, by simp, fun _ => by simp [glue_nil (spl_ne c _)], fun h => by omega, by simpa using Own.lit0 w w.heap.size 9 1 (Nat.le_refl _), (Below.refl _ _).alloc (Nat.le_refl _) _⟩
  case round =>
    obtain ⟨k, fr, D, hk, hfr, rfl, rfl, hD, hF, hE, hO, hbw⟩ := hrel
    have HO := Lib.hid hO
    have hbH := Lib.hid hbw
    have HF := Lib.hid hF
    have HE := Lib.hid hE
    have hzz : w.heap.size ≤ wr.heap.size := hbw.size
    clear hF hE hO hbw
    by_cases hle : k ≤ s.size
    · have HF2 := Lib.hid (HF.out hle)
      have hsl := run_slice_string (P := Tryd.prog) wr 9 s .i64 .i64 fr k Tryd.underlying9 (by omega) (by omega) (by omega)
      simp only [Int.toNat_natCast] at hsl
      by_cases hend : k = s.size
      · subst hend
        go_wp2_with ((at_builtin; refine wp_app1 _ rfl (.tmp 26) (.tmp 31) 53 rfl (w.heap.size) info_str Tryd.underlying53 rfl (by omega) (by omega) _ (D.length) _ rfl (HO.out.alloc _) wr.heap.size 1 1 [sV (s.extract fr s.size)] rfl rfl (by intro j u hu; match j, hu with | 0, hu => (simp at hu; subst hu; simp) | j + 1, hu => simp at hu) (by simp [Value.oneCell']) (by omega) (by simp; omega) ?_; intro v' wn hO' hbn))
        go_roundw
        case rel =>
          refine ⟨s.size + 1, s.size + 1, D ++ [s.extract fr s.size], by omega, by omega, by go_num, by go_num, by simp; omega, fun h => by omega, fun _ => ?_, by simpa using hO', ?_⟩
          · have e := HF2.out
            have e1 : D.map bl ++ glue (((bl s).drop fr).take ((bl s).length - fr)) (spl c ((bl s).drop (bl s).length)) = spl c (bl s) := by rw [bl_len]; exact e
            have e2 := cut_end e1
            rw [List.map_append, ← e2, List.map_cons, List.map_nil, bl_extract, bl_len]
          · have h1 := hbH.out
            (repeat' (first | (with_reducible exact Below.refl _ _) | (with_reducible assumption) | (with_reducible refine Below.alloc ?_ ?_ _) | (with_reducible refine Below.drew ?_) | (with_reducible refine Below.drewN' ?_ _) | (with_reducible refine Below.setCell ?_ ?_ _) | (refine Below.via ?_ (by with_reducible assumption) ?_) | (with_reducible refine Below.via ?_ (Wd.h _) ?_) | go_size))
        case measure => simp [intOf]; try omega
      · have hlt : k < s.size := by omega
        by_cases hcc : s[k] = c
        · have g2 : ((c.toNat : Int) == cn) = true := by rw [HCN.out]; simp
          have HX := Lib.hid (show (bl s)[k]? = some c by rw [bl_get hlt, hcc])
          go_wp2_with ((at_builtin; refine wp_app1 _ rfl (.tmp 26) (.tmp 31) 53 rfl (w.heap.size) info_str Tryd.underlying53 rfl (by omega) (by omega) _ (D.length) _ rfl (HO.out.alloc _) wr.heap.size 1 1 [sV (s.extract fr k)] rfl rfl (by intro j u hu; match j, hu with | 0, hu => (simp at hu; subst hu; simp) | j + 1, hu => simp at hu) (by simp [Value.oneCell']) (by omega) (by simp; omega) ?_; intro v' wn hO' hbn))
          go_roundw
          case rel =>
            refine ⟨k + 1, k + 1, D ++ [s.extract fr k], by omega, by omega, by go_num, by go_num, by simp; omega, fun h => ?_, fun h => by omega, by simpa using hO', ?_⟩
            · rw [List.map_append, List.map_cons, List.map_nil, bl_extract]
              exact cut_hit HX.out HF2.out
            · have h1 := hbH.out
              (repeat' (first | (with_reducible exact Below.refl _ _) | (with_reducible assumption) | (with_reducible refine Below.alloc ?_ ?_ _) | (with_reducible refine Below.drew ?_) | (with_reducible refine Below.drewN' ?_ _) | (with_reducible refine Below.setCell ?_ ?_ _) | (refine Below.via ?_ (by with_reducible assumption) ?_) | (with_reducible refine Below.via ?_ (Wd.h _) ?_) | go_size))
          case measure => simp [intOf]; try omega
        · have g2 : ((s[k].toNat : Int) == cn) = false := by
            rw [HCN.out]; simp only [beq_eq_false_iff_ne, ne_eq]
            intro q; exact hcc (UInt8.toNat_inj.1 (by omega))
          have HX := Lib.hid (bl_get hlt)
          go_wp2
          go_roundw
          case rel => exact ⟨k + 1, fr, D, by omega, by omega, by go_num, rfl, by omega, fun h => cut_miss HX.out hcc hfr HF2.out, fun h => by omega, HO.out, hbH.out⟩
          case measure => simp [intOf]; try omega
    · have HC := Lib.hid (HE.out (by omega))
      obtain ⟨A', c', rfl, -, hr, -⟩ := HO.out.val
      have HR := Lib.hid hr
      clear hr
      go_wp2
      go_ret
      exact ⟨A', c', D, rfl, ⟨HC.out⟩, HR.out, hbH.out⟩
theorem split_one (s : ByteArray) (c : UInt8) (w : World) (hs : Mod s) (ht : Tabs w) :
    Calls Tryd.prog 29 #[.string s, .string ⟨#[c]⟩] w fun e w' => ∃ A d ws, e = .returned (.slice A ws.length d) ∧ Cut s c ws ∧ Rd w' A (ws.map sV) ∧ Below w.heap.size w w' := by
  unfold Mod at hs
  obtain ⟨m, hm⟩ := ht.max
  refine (Tryd.strings_Split s ⟨#[c]⟩ m w (by omega) hm (by show 1 ≤ 1; omega)).mono ?_
  rintro e w' ⟨rfl, rfl⟩
  have hl : (Lib.splitB ⟨#[c]⟩ 0 (Lib.countB s ⟨#[c]⟩) s).length = Lib.countB s ⟨#[c]⟩ + 1 := Lib.splitB_all ⟨#[c]⟩ (by show 1 ≤ 1; omega) 0 _ s rfl
  refine ⟨some ⟨w.heap.size, 0, none⟩, Lib.countB s ⟨#[c]⟩ + 1, Lib.splitB ⟨#[c]⟩ 0 (Lib.countB s ⟨#[c]⟩) s, by rw [hl], ⟨splitB_spl c s⟩, ?_, (Below.refl _ _).alloc (Nat.le_refl _) _⟩
  exact Rd.mk (fun j v e => by rw [Nat.zero_add]; simp; simpa using e) (by simp)
end Go.Proofs.YtfjmceiahampoaaDoor
