/- Numbers read from texts: impl.readNumber, impl.readNumbers, spec.l01Value, spec.l03Numbers, spec.l01Split. -/
import Derived.Test.YtinlaokblnhgoaaDoorTst
import Derived.Test.YtinlaokblnhgoaaDoorTp
import Derived.Test.YtinlaokblnhgoaaDoorAp
import Derived.Test.YtinlaokblnhgoaaDoorSu
import Derived.Lib.AtoiErrMem
namespace Go.Proofs.YtinlaokblnhgoaaDoor
set_option linter.unusedVariables false
set_option linter.unusedSimpArgs false
open Go.RowKit
/-- what reading a text needs of the world -/
structure Tabs (w : World) : Prop where
  pow : Pow w
  rng : ∃ ev, w.cell? ⟨3, 0, none⟩ = some ev ∧ (ev = .nilIface ∨ ∃ te pe, ev = .iface te pe)
  stx : ∃ ev, w.cell? ⟨2, 0, none⟩ = some ev ∧ (ev = .nilIface ∨ ∃ te pe, ev = .iface te pe)
  max : ∃ m, w.cell? ⟨0, 0, none⟩ = some (.int .i64 m)
theorem Tabs.below {w w' : World} (h : Tabs w) (hb : Below w.heap.size w w') : Tabs w' :=
  ⟨h.pow.below hb, by
    obtain ⟨ev, h1, h2⟩ := h.rng
    exact ⟨ev, by rw [hb.cell (p := ⟨3, 0, none⟩) (block_lt h1)]; exact h1, h2⟩, by
    obtain ⟨ev, h1, h2⟩ := h.stx
    exact ⟨ev, by rw [hb.cell (p := ⟨2, 0, none⟩) (block_lt h1)]; exact h1, h2⟩, by
    obtain ⟨m, h1⟩ := h.max
    exact ⟨m, by rw [hb.cell (p := ⟨0, 0, none⟩) (block_lt h1)]; exact h1⟩⟩
theorem max_of {w : World} (h : w.ShapedOpen Tryd.prog) : ∃ m, w.cell? ⟨0, 0, none⟩ = some (.int .i64 m) := Go.Proofs.cell_of_shapedOpen_int (zero := #[.int .i64 0]) (t := 3) h (of_decide_eq_true (by kernel_rfl)) (by kernel_rfl) rfl (by kernel_rfl) (by kernel_rfl) Tryd.underlying3
abbrev bl (s : ByteArray) : List UInt8 := s.data.toList
theorem bl_inj {s t : ByteArray} (h : bl s = bl t) : s = t := by
  apply ByteArray.ext; apply Array.ext'; exact h
theorem bl_itS (n : Int) : bl (itS n) = Lib.itoa n := itS_list n
theorem bl_len (s : ByteArray) : (bl s).length = s.size := by unfold bl ByteArray.size; exact Array.length_toList
theorem itS_iff {v : Int} {s : ByteArray} : itS v = s ↔ Lib.itoa v = bl s := ⟨fun h => by rw [← h, bl_itS], fun h => bl_inj (by rw [bl_itS, h])⟩
theorem rdN_ok {s : ByteArray} {v : Int} (e : Lib.parseIntB 64 (bl s) = .ok v) : rdN (bl s) = if itS v = s then some v else none := by
  unfold rdN; rw [e]; simp only [itS_iff]
theorem rdN_bad {s : ByteArray} (e : ∀ v, Lib.parseIntB 64 (bl s) ≠ .ok v) : rdN (bl s) = none := by
  unfold rdN
  cases h : Lib.parseIntB 64 (bl s) with
  | ok v => exact absurd h (e v)
  | _ => rfl
theorem sbeq_f {a b : ByteArray} (h : a ≠ b) : (a.toList == b.toList) = false := by
  rw [Go.ByteArray.toList_eq, Go.ByteArray.toList_eq]
  simp only [beq_eq_false_iff_ne, ne_eq]
  exact fun e => h (bl_inj e)
/-- a text of moderate size -/
abbrev Mod (s : ByteArray) : Prop := s.size ≤ 1048600
/-- strconv.ParseInt(s, 10, 64): the number and no error, or an error -/
theorem parseInt64 (s : ByteArray) (w : World) (hs : Mod s) (ht : Tabs w) :
    Calls Tryd.prog 41 #[.string s, .int .i64 10, .int .i64 64] w fun e w' =>
      ((∃ v, Lib.parseIntB 64 (bl s) = .ok v ∧ e = .returned (.tuple #[.int .i64 v, .nilIface])) ∨ ((∀ v, Lib.parseIntB 64 (bl s) ≠ .ok v) ∧ ∃ (n : Int) (te : TypeId) (pe : Value), e = .returned (.tuple #[.int .i64 n, .iface te pe]))) ∧ Below w.heap.size w w' := by
  unfold Mod at hs
  cases h : Lib.parseIntB 64 (bl s) with
  | ok v =>
    refine (Tryd.strconv_ParseInt_10_at64_ok s (by omega) v h w).mono ?_
    rintro e w' ⟨rfl, h2⟩
    refine ⟨.inl ⟨v, rfl, rfl⟩, ?_⟩
    rcases h2 with rfl | ⟨t, rfl⟩
    · exact Below.refl _ _
    · exact Lib.bytesWorld_below _ _ _
  | range =>
    obtain ⟨ev, h1, h2⟩ := ht.rng
    refine (Tryd.strconv_ParseInt_10_at64_range s (by omega) h ev w h1 h2).mono ?_
    rintro e w' ⟨N, rfl, -, -, hb⟩
    exact ⟨.inr ⟨(fun v q => by cases q), _, _, _, rfl⟩, hb⟩
  | _ =>
    obtain ⟨ev, h1, h2⟩ := ht.stx
    refine (Any.strconv_ParseInt_10_at64_syntax Tryd.laysC174 s (by omega) h ev w h1 h2).mono ?_
    rintro e w' ⟨N, rfl, -, -, hb⟩
    exact ⟨.inr ⟨(fun v q => by cases q), _, _, _, rfl⟩, hb⟩
set_option maxRecDepth 100000 in
set_option maxHeartbeats 1000000 in
theorem impl_readNumber (s : ByteArray) (w : World) (hs : Mod s) (ht : Tabs w) :
    Calls Tryd.prog 35 #[.string s] w fun e w' => e = .returned (.tuple #[.int .i64 ((rdN (bl s)).getD 0), .bool (rdN (bl s)).isSome]) ∧ Below w.heap.size w w' := by
  have HT := Lib.hid ht
  have HP := Lib.hid (parseInt64 s w hs ht)
  clear ht
  go_enter Tryd.func35, Tryd.ntmps35
  go_wp2_with fail
  refine HP.out.mono ?_
  rintro e w1 ⟨h | ⟨h, n, te, pe, rfl⟩, hb1⟩
  · obtain ⟨v, hv, rfl⟩ := h
    have hb := Lib.parseIntB_bounds hv
    have HR := Lib.hid (rdN_ok hv)
    clear hv
    have HT1 := Lib.hid (HT.out.below hb1)
    have HB1 := Lib.hid hb1
    by_cases hq : itS v = s
    · subst hq
      have HR2 := HR.out
      rw [if_pos rfl] at HR2
      have HRR := Lib.hid HR2
      clear hb1 HR2
      go_wp2_with fail
      refine (impl_decimal v _ (by omega) (by omega) HT1.out.pow).mono ?_
      rintro e w2 ⟨rfl, hb2⟩
      go_wp2
      go_ret2
      rw [HRR.out]
      exact ⟨rfl, HB1.out.trans (hb2.mono HB1.out.size)⟩
    · have HR2 := HR.out
      rw [if_neg hq] at HR2
      have HRR := Lib.hid HR2
      have q1 := sbeq_f hq
      clear hb1 HR2
      go_wp2_with fail
      refine (impl_decimal v _ (by omega) (by omega) HT1.out.pow).mono ?_
      rintro e w2 ⟨rfl, hb2⟩
      go_wp2
      go_ret2
      rw [HRR.out]
      exact ⟨rfl, HB1.out.trans (hb2.mono HB1.out.size)⟩
  · have HR := Lib.hid (rdN_bad h)
    have HB1 := Lib.hid hb1
    clear h hb1
    go_wp2
    go_ret2
    rw [HR.out]
    exact ⟨rfl, HB1.out⟩
abbrev sV (s : ByteArray) : Value := .string s
/-- numbers read, or nothing -/
def NumsR (o : Option (List Int)) (w : World) (e : Ending) (w' : World) : Prop :=
  match o with
  | some l => ∃ A c, e = .returned (.tuple #[.slice A l.length c, .bool true]) ∧ Rd w' A (l.map iV) ∧ Below w.heap.size w w'
  | none => e = .returned (.tuple #[.slice none 0 0, .bool false]) ∧ Below w.heap.size w w'
theorem NumsR.some_ {o : Option (List Int)} {w w' : World} {e : Ending} {l : List Int} (h : o = some l) (hx : ∃ A c, e = .returned (.tuple #[.slice A l.length c, .bool true]) ∧ Rd w' A (l.map iV) ∧ Below w.heap.size w w') : NumsR o w e w' := by subst h; exact hx
theorem NumsR.none_ {o : Option (List Int)} {w w' : World} {e : Ending} (h : o = none) (hx : e = .returned (.tuple #[.slice none 0 0, .bool false]) ∧ Below w.heap.size w w') : NumsR o w e w' := by subst h; exact hx
theorem words_at {w : World} {b off : Nat} {l : List ByteArray} (h : RdAt w b off (l.map sV)) {k : Nat} {s : ByteArray} (hk : l[k]? = some s) : w.cell? ⟨b, off + k, none⟩ = some (.string s) :=
  h k _ (by rw [List.getElem?_map, hk]; rfl)
theorem mapO_at {f : List UInt8 → Option Int} {ws : List ByteArray} {k : Nat} {s : ByteArray} {acc : List Int} {v : Int} (hk : ws[k]? = some s) (ha : mapO f ((ws.take k).map bl) = some acc) (hv : f (bl s) = some v) : mapO f ((ws.take (k + 1)).map bl) = some (acc ++ [v]) := by
  rw [List.take_add_one, hk, List.map_append]; exact mapO_snoc ha hv
theorem mapO_no {f : List UInt8 → Option Int} {ws : List ByteArray} {k : Nat} {s : ByteArray} (hk : ws[k]? = some s) (hv : f (bl s) = none) : mapO f (ws.map bl) = none :=
  mapO_none hv _ (List.mem_map.2 ⟨s, List.mem_of_getElem? hk, rfl⟩)
set_option maxRecDepth 100000 in
set_option maxHeartbeats 2000000 in
theorem impl_readNumbers (A : Option Addr) (c : Nat) (ws : List ByteArray) (w : World) (h : Rd w A (ws.map sV)) (hl : ws.length ≤ 1048601) (hm : ∀ s ∈ ws, Mod s) (ht : Tabs w) :
    Calls Tryd.prog 27 #[.slice A ws.length c] w (NumsR (mapO rdN (ws.map bl)) w) := by
  have hmk := make_rule (P := Tryd.prog) info_i64 Tryd.underlying26 ws.length (by omega) (by omega)
  have H := Lib.hid h
  have HT := Lib.hid ht
  have HM := Lib.hid hm
  clear h ht hm
  go_enter Tryd.func27, Tryd.ntmps27
  go_wp2
  have ha := Arr.made w (.int .i64 0) ws.length 1 2 rfl (by omega)
  have hb0 : Below w.heap.size w (w.alloc (.cells (madeCells (Value.int .i64 0).cells (ws.length * 1)) 2)) := (Below.refl _ _).alloc (Nat.le_refl _) _
  clear hmk
  go_loopw [14] (fun v wr => ∃ (k : Nat) (acc : List Int), k ≤ ws.length ∧ v = .int .i64 k ∧ acc.length = k ∧ mapO rdN ((ws.take k).map bl) = some acc ∧ Arr wr w.heap.size (ws.length * 1) (acc.map iV) ∧ Below w.heap.size w wr) (fun v _ => ws.length - (intOf v).toNat)
  case atStart => exact ⟨0, [], by omega, rfl, rfl, rfl, by simpa [Value.cells] using ha, by simpa [Value.cells] using hb0⟩
  case round =>
    obtain ⟨k, acc, hk, rfl, hac, hF, hA, hbw⟩ := hrel
    have HA := Lib.hid hA
    have HF := Lib.hid hF
    have hbH := Lib.hid hbw
    clear ha hb0 hF
    by_cases hlt : k < ws.length
    · obtain ⟨s, hs⟩ := get_some hlt
      obtain ⟨b, off, rfl, hb, hat⟩ := H.out.opened (k := k) (by simpa using hlt)
      have t0 := words_at (hat.below hbw hb) hs
      have HS := Lib.hid hs
      have HMS := HM.out s (List.mem_of_getElem? hs)
      have HTW := Lib.hid (HT.out.below hbw)
      clear hs hat hA hbw
      go_wp2_with fail
      refine (impl_readNumber s _ HMS HTW.out).mono ?_
      rintro e wn ⟨rfl, hbn⟩
      have HB2 := Lib.hid (Below.via hbH.out hbn hbH.out.size)
      have hA2 := HA.out.below hbn HA.out.lt
      have HA2 := Lib.hid hA2
      obtain ⟨u, t1⟩ := hA2.some_ (j := k) (by omega)
      have t2 := hA2.free (j := k) (by omega)
      clear hA2 hbn
      cases hv : rdN (bl s) with
      | none =>
        have HV := Lib.hid hv
        clear hv
        go_wp2
        go_ret2
        exact NumsR.none_ (mapO_no HS.out HV.out) ⟨rfl, HB2.out⟩
      | some n =>
        have HV := Lib.hid hv
        clear hv
        go_wp2
        go_roundw
        case rel =>
          refine ⟨k + 1, acc ++ [n], by omega, by go_num, by simp [hac], mapO_at HS.out HF.out HV.out, ?_, HB2.out.setCell (by simp) _⟩
          rw [List.map_append]
          exact HA2.out.push k (by simp [hac]) (by omega) _
        case measure => simp [intOf]; omega
    · have hkl : k = ws.length := by omega
      go_wp2
      go_ret2
      refine NumsR.some_ (l := acc) ?_ ⟨some ⟨w.heap.size, 0, none⟩, ws.length, ?_, HA.out.rd, hbH.out⟩
      · have := HF.out
        rw [List.take_of_length_le (by omega)] at this
        exact this
      · rw [hac, hkl]; rfl
theorem bl_get {s : ByteArray} {k : Nat} (h : k < s.size) : (bl s)[k]? = some s[k] := by
  have h' : k < s.data.size := h
  rw [show bl s = s.data.toList from rfl, Array.getElem?_toList, Array.getElem?_eq_getElem h']; rfl
theorem dgV_step {s : ByteArray} {k : Nat} (h : k < s.size) : dgV 0 ((bl s).take (k + 1)) = dgV 0 ((bl s).take k) * 10 + (s[k].toNat - 48) := by
  rw [List.take_add_one, bl_get h]; exact dgV_snoc _ _ _
theorem take_dig {s : ByteArray} {k : Nat} (hall : ∀ i (h : i < s.size), i < k → isD s[i]) : ∀ c ∈ (bl s).take k, isD c := by
  intro c hc
  obtain ⟨i, hi, rfl⟩ := List.getElem_of_mem hc
  rw [List.length_take] at hi
  have hs : i < s.size := by have := bl_len s; omega
  have h1 := bl_get hs
  have h2 : ((bl s).take k)[i]? = some s[i] := by rw [List.getElem?_take, if_pos (by omega)]; exact h1
  have h3 := List.getElem?_eq_getElem (l := (bl s).take k) (i := i) (by rw [List.length_take]; omega)
  rw [h2] at h3
  rw [← Option.some.inj h3]
  exact hall i hs (by omega)
theorem dgV_bd {s : ByteArray} {k : Nat} (hall : ∀ i (h : i < s.size), i < k → isD s[i]) (hk : k ≤ 18) : dgV 0 ((bl s).take k) < 1000000000000000000 := by
  have h1 := dgV_lt _ (take_dig hall) 0 0 (by simp)
  have h2 : 10 ^ (0 + ((bl s).take k).length) ≤ 10 ^ 18 := Nat.pow_le_pow_right (by omega) (by rw [List.length_take]; omega)
  have : (10 : Nat) ^ 18 = 1000000000000000000 := by decide
  omega
theorem dgV_be {s : ByteArray} {k : Nat} (hall : ∀ i (h : i < s.size), i < k → isD s[i]) (hk : k ≤ 17) : dgV 0 ((bl s).take k) < 100000000000000000 := by
  have h1 := dgV_lt _ (take_dig hall) 0 0 (by simp)
  have h2 : 10 ^ (0 + ((bl s).take k).length) ≤ 10 ^ 17 := Nat.pow_le_pow_right (by omega) (by rw [List.length_take]; omega)
  have : (10 : Nat) ^ 17 = 100000000000000000 := by decide
  omega
theorem rdV_short {s : ByteArray} (h : ¬ (1 ≤ s.size ∧ s.size ≤ 18)) : rdV (bl s) = none := by
  unfold rdV; rw [bl_len, if_neg (fun q => h ⟨q.1, q.2.1⟩)]
theorem rdV_char {s : ByteArray} {k : Nat} (h : k < s.size) (hc : ¬ isD s[k]) : rdV (bl s) = none := by
  unfold rdV; rw [if_neg (fun q => hc (q.2.2.1 _ (List.mem_of_getElem? (bl_get h))))]
theorem rdV_end {s : ByteArray} (h1 : 1 ≤ s.size) (h2 : s.size ≤ 18) (hall : ∀ i (h : i < s.size), isD s[i]) : rdV (bl s) = if itS (dgV 0 (bl s) : Int) = s then some (dgV 0 (bl s) : Int) else none := by
  have hd := take_dig (s := s) (k := s.size) (fun i h _ => hall i h)
  rw [List.take_of_length_le (by rw [bl_len]; exact Nat.le_refl _)] at hd
  have e : (itS (dgV 0 (bl s) : Int) = s) = (Lib.decDigits (dgV 0 (bl s)) = bl s) := by
    rw [eq_iff_iff, itS_iff, Lib.itoa_nonneg]
  unfold rdV
  simp only [e]
  by_cases q : Lib.decDigits (dgV 0 (bl s)) = bl s
  · rw [if_pos q, if_pos ⟨by rw [bl_len]; exact h1, by rw [bl_len]; exact h2, hd, q⟩]
  · rw [if_neg q, if_neg (fun z => q z.2.2.2)]
end Go.Proofs.YtinlaokblnhgoaaDoor
