/- The search of a network from a node. -/
import Derived.Test.YtbdacplndmnkhaaGreatDoorGs
namespace Go.Proofs.YtbdacplndmnkhaaGreatDoor
set_option linter.unusedVariables false
set_option linter.unusedSimpArgs false
open Go.RowKit
abbrev blV (b : Bool) : Value := .bool b
theorem info_blG : (Tryz.prog.info? 4).map (fun i => (i.zero, i.size, i.bytes)) = some (some (.bool false), 1, 1) := by kernel_rfl
theorem make_bl (n : Nat) (hn : n ≤ 2097152) (w : World) : (Instr.makeSlice 137 (.int .i64 (n : Int)) (.int .i64 (n : Int))).run Tryz.prog w = .ok (.slice (some ⟨w.heap.size, 0, none⟩) n n) (w.alloc (.cells (madeCells #[Value.bool false] n) 4)) := by
  have := make_rule (P := Tryz.prog) info_blG Tryz.underlying137 n hn (by omega) w
  simpa [Value.cells] using this
theorem Arr.madeB (w : World) (n : Nat) (e : TypeId) : Arr (w.alloc (.cells (madeCells #[Value.bool false] n) e)) w.heap.size n ((List.replicate n false).map blV) := by
  have hc : ∀ j, (w.alloc (.cells (madeCells #[Value.bool false] n) e)).cell? ⟨w.heap.size, j, none⟩ = (List.replicate n (Value.bool false))[j]? := fun j => by
    have : (w.alloc (.cells (madeCells #[Value.bool false] n) e)).cell? ⟨w.heap.size, j, none⟩ = (madeCells #[Value.bool false] n)[j]? := by simp
    rw [this, ← Array.getElem?_toList, toList_madeCells_one]
  refine ⟨by simp, fun j hj => ⟨⟨.bool false, ?_⟩, by simp⟩, fun j v e => ?_⟩
  · rw [hc]; simp [hj]
  · rw [hc]; simpa using e
theorem bls_cell {w : World} {g N : Nat} {l : List Bool} (h : Arr w g N (l.map blV)) {k : Nat} {b : Bool} (hk : l[k]? = some b) : w.cell? ⟨g, k, none⟩ = some (.bool b) := h.cell (by rw [List.getElem?_map, hk]; rfl)
theorem map_set_bl (l : List Bool) (k : Nat) (b : Bool) : (l.set k b).map blV = (l.map blV).set k (.bool b) := by rw [List.map_set]
/-- the entries filled so far -/
def filM (n k : Nat) : List Int := List.replicate k (-1) ++ List.replicate (n - k) 0
theorem filM_len {n k : Nat} (h : k ≤ n) : (filM n k).length = n := by simp [filM]; omega
theorem filM_set {n k : Nat} (h : k < n) : (filM n k).set k (-1) = filM n (k + 1) := by
  unfold filM
  rw [List.set_append_right _ _ (by simp), List.length_replicate, Nat.sub_self]
  obtain ⟨m, hm⟩ : ∃ m, n - k = m + 1 := ⟨n - k - 1, by omega⟩
  rw [hm, List.replicate_succ, List.set_cons_zero, show n - (k + 1) = m by omega, List.replicate_succ', List.append_assoc]
  rfl
theorem cnt_set : ∀ {l : List Bool} {k : Nat}, l[k]? = some false → (l.set k true).count true = l.count true + 1
  | [], k, h => by simp at h
  | x :: l, 0, h => by simp at h; subst h; simp
  | x :: l, k + 1, h => by
    have := cnt_set (l := l) (k := k) (by simpa using h)
    simp only [List.set_cons_succ, List.count_cons, this]; omega
theorem pipe_ftG {N : Net} (hO : N.Ok) {p : Pp} (hp : p ∈ N.pipes) : 0 ≤ p.f ∧ p.f ≤ (N.nodes.length : Int) - 1 ∧ 0 ≤ p.t ∧ p.t ≤ (N.nodes.length : Int) - 1 := by
  have := hO.pipes p hp
  simp only [pipeB, Bool.and_eq_true, inB_iff] at this
  omega
/-- what goes around the loops of a search -/
structure GsI (w : World) (A B : Option Addr) (c d : Nat) (N : Net) (u : Value) (E : List Int) (S : List Bool) (O : List Int) (wr : World) : Prop where
  el : E.length = N.nodes.length
  eb : ∀ y ∈ E, -1 ≤ y ∧ y < N.pipes.length
  sl : S.length = N.nodes.length
  ol : O.length = S.count true
  ob : ∀ y ∈ O, 0 ≤ y ∧ y < N.nodes.length
  o : Own wr (w.heap.size + 3) 2 1 u O.length (O.map iV)
  a1 : Arr wr (w.heap.size + 1) N.nodes.length (E.map iV)
  a2 : Arr wr (w.heap.size + 1 + 1) N.nodes.length (S.map blV)
  bx : Bx wr w.heap.size [.slice A N.nodes.length c, .slice B N.pipes.length d]
  bl : Below w.heap.size w wr
  sz : w.heap.size + 3 ≤ wr.heap.size
theorem GsI.le {w wr : World} {A B : Option Addr} {c d : Nat} {N : Net} {u : Value} {E O : List Int} {S : List Bool} (h : GsI w A B c d N u E S O wr) : O.length ≤ N.nodes.length := by
  rw [h.ol, ← h.sl]; exact List.count_le_length
theorem GsI.below {w wr wr' : World} {A B : Option Addr} {c d : Nat} {N : Net} {u : Value} {E O : List Int} {S : List Bool} (h : GsI w A B c d N u E S O wr) (hb : Below wr.heap.size wr wr') : GsI w A B c d N u E S O wr' :=
  ⟨h.el, h.eb, h.sl, h.ol, h.ob, h.o.below hb (Nat.le_refl _), h.a1.below hb h.a1.lt, h.a2.below hb h.a2.lt, h.bx.below hb h.bx.lt, h.bl.trans (hb.mono (by have := h.sz; omega)), Nat.le_trans h.sz hb.size⟩
theorem cell_new1 (w : World) (v : Value) (t : TypeId) (n : Nat) (h : n = w.heap.size) : (w.alloc (.cells #[v] t)).cell? ⟨n, 0, none⟩ = some v := by subst h; simp
theorem GsI.push {w wr w' : World} {A B : Option Addr} {c d : Nat} {N : Net} {u u' : Value} {E O : List Int} {S : List Bool} {ob : Obj} (h : GsI w A B c d N u E S O wr) {tn q : Nat} (hs : S[tn]? = some false) (hq : q < N.pipes.length) (ho : Own w' (w.heap.size + 3) 2 1 u' (O.length + 1) (O.map iV ++ [iV tn]))
    (hb : Below (w.heap.size + 3) (((wr.setCell ⟨w.heap.size + 1 + 1, tn, none⟩ (.bool true)).setCell ⟨w.heap.size + 1, tn, none⟩ (.int .i64 q)).alloc ob) w') : GsI w A B c d N u' (E.set tn q) (S.set tn true) (O ++ [(tn : Int)]) w' := by
  have hlt : tn < S.length := (List.getElem?_eq_some_iff.1 hs).1
  have hsl := h.sl
  have hel := h.el
  have hsz := h.sz
  have hk1 : Keep (fun z => z = w.heap.size + 1 + 1 ∨ z = w.heap.size + 1) wr ((wr.setCell ⟨w.heap.size + 1 + 1, tn, none⟩ (.bool true)).setCell ⟨w.heap.size + 1, tn, none⟩ (.int .i64 q)) :=
    ((Keep.refl (fun z => z = w.heap.size + 1 + 1 ∨ z = w.heap.size + 1) wr).setCell (p := ⟨w.heap.size + 1 + 1, tn, none⟩) (Or.inl rfl) _).setCell (p := ⟨w.heap.size + 1, tn, none⟩) (Or.inr rfl) _
  have hbl := h.bl
  refine ⟨by simpa using hel, fun y hy => ?_, by simpa using hsl, ?_, fun y hy => ?_, by simpa using ho, ?_, ?_, ?_, ?_, ?_⟩
  · rcases List.mem_or_eq_of_mem_set hy with hy | hy
    · exact h.eb y hy
    · omega
  · rw [List.length_append, h.ol, cnt_set hs]; rfl
  · rcases List.mem_append.1 hy with hy | hy
    · exact h.ob y hy
    · have := List.mem_singleton.1 hy; omega
  · rw [map_set_iV]
    exact ((((h.a1.far (p := ⟨w.heap.size + 1 + 1, tn, none⟩) (by simp) _).setAt (by omega) _).alloc _).below hb (by omega))
  · rw [map_set_bl]
    exact ((((h.a2.setAt (by omega) _).far (p := ⟨w.heap.size + 1, tn, none⟩) (by simp) _).alloc _).below hb (by omega))
  · exact (((h.bx.keep hk1 (by omega)).below (Below.alloc (Below.refl _ _) (Nat.le_refl _) _) (by simp; omega)).below hb (by omega))
  · exact (((hbl.setCell (by simp; omega) _).setCell (by simp) _).alloc (by simp; omega) _).trans (hb.mono (by omega))
  · have := hb.size; simp at this; omega
set_option maxRecDepth 100000 in
set_option maxHeartbeats 8000000 in
theorem spec_l04Search (A B : Option Addr) (n c m d : Nat) (N : Net) (node : Nat) (w : World) (hN : NetAt w A B N) (hn : n = N.nodes.length) (hm : m = N.pipes.length) (hO : N.Ok) (hnode : node < N.nodes.length) :
    Calls Tryz.prog 114 #[netV A B n c m d, .int .i64 (node : Int)] w fun e w' => ∃ (A1 A2 : Option Addr) (c1 c2 : Nat) (E O : List Int), e = .returned (.tuple #[.slice A1 E.length c1, .slice A2 O.length c2]) ∧ E.length = N.nodes.length ∧ (∀ y ∈ E, -1 ≤ y ∧ y < N.pipes.length) ∧ O.length ≤ N.nodes.length ∧ (∀ y ∈ O, 0 ≤ y ∧ y < N.nodes.length) ∧ Rd w' A1 (E.map iV) ∧ Rd w' A2 (O.map iV) ∧ (∀ b off, A1 = some ⟨b, off, none⟩ → w.heap.size ≤ b) ∧ (∀ b off, A2 = some ⟨b, off, none⟩ → w.heap.size ≤ b) ∧ Below w.heap.size w w' := by
  subst hn hm
  have HN := Lib.hid hN
  have HO := Lib.hid hO
  have hln := hN.ln
  have hlp := hN.lp
  have hp1 := hO.p1
  have hn2 := hO.n2
  clear hN hO
  have hmk := make_i64 N.nodes.length (by omega)
  have hmb := make_bl N.nodes.length (by omega)
  go_enter Tryz.func114, Tryz.ntmps114
  go_wp2_with fail
  have HA1 := Lib.hid (Arr.madeI (w.alloc (.cells #[.slice A N.nodes.length c, .slice B N.pipes.length d] 34)) N.nodes.length 2)
  have HA2 := Lib.hid (Arr.madeB ((w.alloc (.cells #[.slice A N.nodes.length c, .slice B N.pipes.length d] 34)).alloc (.cells (madeCells #[Value.int .i64 0] N.nodes.length) 2)) N.nodes.length 4)
  clear hmk hmb
  go_loopw [8] (fun v wr => ∃ k : Nat, k ≤ N.nodes.length ∧ v = .int .i64 k ∧ Arr wr (w.heap.size + 1) N.nodes.length ((filM N.nodes.length k).map iV) ∧ Arr wr (w.heap.size + 1 + 1) N.nodes.length ((List.replicate N.nodes.length false).map blV) ∧ Bx wr w.heap.size [.slice A N.nodes.length c, .slice B N.pipes.length d] ∧ Below w.heap.size w wr) (fun v _ => N.nodes.length - (intOf v).toNat)
  case atStart => exact ⟨0, by omega, rfl, by simpa [filM] using HA1.out.alloc _, by simpa using HA2.out, (bx2 (by first | exact hy0 | go_size) (by first | (with_reducible exact cw0_0) | go_cell_look | (simp [go_sem, hy0, cw0_0, fw0_0, cw0_1, fw0_1]; done) | (simp [go_sem]; done)) (by first | (with_reducible exact fw0_0) | (simp only [World.frozen?_setCell, fw0_0]; done) | (simp [go_sem, hy0, cw0_0, fw0_0, cw0_1, fw0_1]; done) | (simp [go_sem]; done)) (by first | (with_reducible exact cw0_1) | go_cell_look | (simp [go_sem, hy0, cw0_0, fw0_0, cw0_1, fw0_1]; done) | (simp [go_sem]; done)) (by first | (with_reducible exact fw0_1) | (simp only [World.frozen?_setCell, fw0_1]; done) | (simp [go_sem, hy0, cw0_0, fw0_0, cw0_1, fw0_1]; done) | (simp [go_sem]; done))), by (repeat' (first | (with_reducible exact Below.refl _ _) | (with_reducible assumption) | (with_reducible refine Below.alloc ?_ ?_ _) | (with_reducible refine Below.drew ?_) | (with_reducible refine Below.drewN' ?_ _) | (with_reducible refine Below.setCell ?_ ?_ _) | (refine Below.via ?_ (by with_reducible assumption) ?_) | (with_reducible refine Below.via ?_ (Wd.h _) ?_) | go_size))⟩
  case round =>
    clear HA1 HA2
    obtain ⟨k, hk, rfl, hA1, hA2, hB, hbw⟩ := hrel
    have hbH := Lib.hid hbw
    have H1 := Lib.hid hA1
    have H2 := Lib.hid hA2
    have HB := Lib.hid hB
    have hlt1 := hA1.lt
    have hlt2 := hA2.lt
    clear hA1 hA2 hB hbw
    by_cases hlt : k < N.nodes.length
    · have g1 : (k : Int) < N.nodes.length := by omega
      obtain ⟨y, hy⟩ := get_some (l := filM N.nodes.length k) (k := k) (by rw [filM_len (by omega)]; exact hlt)
      have s0 := ints_cell H1.out hy
      have s1 := H1.out.free (j := k) hlt
      clear hy
      go_wp2
      go_roundw
      case rel =>
        refine ⟨k + 1, by omega, by go_num, ?_, H2.out.far (by simp) _, ?_, (hbH.out).setCell (by simp) _⟩
        · have := H1.out.setAt hlt (.int .i64 (-1))
          rw [← filM_set hlt, map_set_iV]; exact this
        · have hk1 : Keep (fun z => z = w.heap.size + 1) wr (wr.setCell ⟨w.heap.size + 1, k, none⟩ (.int .i64 (-1))) := (Keep.refl (fun z => z = w.heap.size + 1) wr).setCell (p := ⟨w.heap.size + 1, k, none⟩) rfl _
          exact HB.out.keep hk1 (by omega)
      case measure => simp [intOf]; omega
    · obtain rfl : k = N.nodes.length := by omega
      have g1 : ¬ (N.nodes.length : Int) < N.nodes.length := by omega
      have g2 : (node : Int) < N.nodes.length := by omega
      have s0 := bls_cell H2.out (k := node) (b := false) (by simp [hnode])
      have s1 := H2.out.free (j := node) hnode
      go_wp2_with fail
      generalize hW : World.alloc (World.setCell wr _ _) _ = wx
      have HS := Lib.hid (show Arr (World.setCell wr ⟨w.heap.size + 1 + 1, node, none⟩ (.bool true)) (w.heap.size + 1 + 1) N.nodes.length (((List.replicate N.nodes.length false).set node true).map blV) by rw [map_set_bl]; exact H2.out.setAt hnode _)
      have HX := Lib.hid (show GsI w A B c d N (.slice (some ⟨wr.heap.size, 0, none⟩) 1 1) (filM N.nodes.length N.nodes.length) ((List.replicate N.nodes.length false).set node true) [(node : Int)] wx by
        have e1 : filM N.nodes.length N.nodes.length = List.replicate N.nodes.length (-1) := by simp [filM]
        have e2 : ((List.replicate N.nodes.length false).set node true).count true = 1 := by rw [cnt_set (by simp [hnode])]; simp [List.count_replicate]
        have hk1 : Keep (fun z => z = w.heap.size + 1 + 1) wr (World.setCell wr ⟨w.heap.size + 1 + 1, node, none⟩ (.bool true)) := (Keep.refl (fun z => z = w.heap.size + 1 + 1) wr).setCell (p := ⟨w.heap.size + 1 + 1, node, none⟩) rfl _
        refine ⟨by rw [e1]; simp, fun y hy => ?_, by simp, by rw [e2]; rfl, fun y hy => ?_, ?_, ?_, ?_, ?_, ?_, ?_⟩
        · rw [e1] at hy; have := List.eq_of_mem_replicate hy; omega
        · have := List.mem_singleton.1 hy; omega
        · rw [← hW]
          have := World.ownsRow_lit (base := w.heap.size + 3) (e := 2) (size := 1) (World.setCell wr ⟨w.heap.size + 1 + 1, node, none⟩ (.bool true)) #[iV node] 1 (by simp; omega) (by simp [maxLen]) (by simp)
          rw [show (World.setCell wr ⟨w.heap.size + 1 + 1, node, none⟩ (.bool true)).heap.size = wr.heap.size by simp] at this
          exact this
        · rw [← hW]; exact (H1.out.keep hk1 (by omega)).alloc _
        · rw [← hW]; exact HS.out.alloc _
        · rw [← hW]; exact (HB.out.keep hk1 (by omega)).below (Below.alloc (Below.refl _ _) (Nat.le_refl _) _) (by simp; omega)
        · rw [← hW]; exact (hbH.out.setCell (by simp; omega) _).alloc (by simp; omega) _
        · rw [← hW]; simp; omega)
      clear hW H1 H2 HB HS s0 s1 hbH
      go_wp2_with fail
      go_loopw [9, 10, 11, 12, 13] (fun u t _ _ _ wv => ∃ (k : Nat) (E : List Int) (S : List Bool) (O : List Int), t = .int .i64 k ∧ k ≤ O.length ∧ GsI w A B c d N u E S O wv) (fun _ t _ _ _ _ => N.nodes.length - (intOf t).toNat)
      case atStart => exact ⟨0, _, _, _, rfl, by simp, HX.out⟩
      case round =>
        clear HX
        obtain ⟨k, E, S, O, rfl, hk, hI⟩ := hrel
        have HK := Lib.hid hI
        have hle := hI.le
        clear hI
        by_cases hlt : k < O.length
        · obtain ⟨x, hx⟩ := get_some hlt
          obtain ⟨x0, x1⟩ := HK.out.ob x (List.mem_of_getElem? hx)
          obtain ⟨g, cap, hu9, hgb, hcap, harr⟩ := HK.out.o.arr (by omega)
          have HARR := Lib.hid harr
          have HXk := Lib.hid hx
          have g1 : (k : Int) < O.length := by omega
          clear harr hx
          subst hu9
          have HPP := Lib.hid (show ∀ (w5 : World) (v : Value) (l : List Int) (wx : World), wr.heap.size ≤ wx.heap.size → Own w5 wx.heap.size 2 1 v l.length (l.map iV) → Apart (.slice (some ⟨g, 0, none⟩) O.length cap) v from fun w5 v l wx hz ho g' hg hv => by
            have h1 := World.ownsRow.lt HK.out.o g' hg
            have h2 := World.ownsRow.lt ho g' hv
            omega)
          go_wp2_with fail
          refine wp_region_tb (R := Value × List Int) [some 42, some 43, some 44, some 45, some 46, some 47, some 11] _ (by intro u; simp only [frs, Act.put, List.setIfInBounds_toArray, List.set_cons_zero, List.set_cons_succ, Nat.reduceAdd]; exact rfl) (fun ρ j => ([.agg #[.slice A N.nodes.length c, .slice B N.pipes.length d], .slice (some ⟨g, 0, none⟩) O.length cap, .int .i64 k, .pointer (some ⟨g, k, none⟩), .int .i64 x, ρ.1, ρ.1] : List Value).getD j undef) (WC 5 (fun v l wt => AtOk N x l ∧ l.length ≤ N.pipes.length ∧ Own wt (w.heap.size + 3) 2 1 v l.length (l.map iV) ∧ Apart (.slice (some ⟨g, 0, none⟩) O.length cap) v) wr) (by kernel_rfl) (by kernel_rfl) (undef, []) (WC.start (Below.drew (Below.refl _ _))) ?_ ?_
          · intro ii hii L ρ u wx hl hp hc hu hn hW
            have hii : ii < 7 := hii
            have HNo := Lib.hid hn
            clear hn
            have hzx := hW.bl.size
            have hii : ii = 0 ∨ ii = 1 ∨ ii = 2 ∨ ii = 3 ∨ ii = 4 ∨ ii = 5 ∨ ii = 6 := by omega
            rcases hii with rfl | rfl | rfl | rfl | rfl | rfl | rfl
            · have hbx := HK.out.bx.below hW.bl HK.out.bx.lt
              have xx0 := hbx.cell 0 rfl
              have xx1 := hbx.cell 1 rfl
              refine wpOp_go (E := True) rfl rfl (fun K' hK => ?_)
              go_simp
              refine hK.out _ _ ⟨ρ, (by simp only [put]; rfl), fun _ _ => rfl, hW.pure (by omega)⟩
            · refine wpOp_go (E := True) rfl rfl (fun K' hK => ?_)
              go_simp
              refine hK.out _ _ ⟨ρ, (by simp only [put]; rfl), fun _ _ => rfl, hW.pure (by omega)⟩
            · refine wpOp_go (E := True) rfl rfl (fun K' hK => ?_)
              go_simp
              refine hK.out _ _ ⟨ρ, (by simp only [put]; rfl), fun _ _ => rfl, hW.pure (by omega)⟩
            · have e1 : u 1 = .slice (some ⟨g, 0, none⟩) O.length cap := hu 1 (all_of hp (by kernel_rfl))
              have e2 : u 2 = .int .i64 k := hu 2 (all_of hp (by kernel_rfl))
              refine wpOp_go (E := True) rfl rfl (fun K' hK => ?_)
              go_simp
              refine hK.out _ _ ⟨ρ, (by simp only [put, e1, e2]; rfl), fun _ _ => rfl, hW.pure (by omega)⟩
            · have e3 : u 3 = .pointer (some ⟨g, k, none⟩) := hu 3 (all_of hp (by kernel_rfl))
              have t_0 := ints_cell (HARR.out.below hW.bl HARR.out.lt) HXk.out
              refine wpOp_go (E := True) rfl rfl (fun K' hK => ?_)
              go_simp
              refine hK.out _ _ ⟨ρ, (by simp only [put, e3]; rfl), fun _ _ => rfl, hW.pure (by omega)⟩
            · have e0 : u 0 = .agg #[.slice A N.nodes.length c, .slice B N.pipes.length d] := hu 0 (all_of hp (by kernel_rfl))
              have e4 : u 4 = .int .i64 x := hu 4 (all_of hp (by kernel_rfl))
              refine wpOp_go (E := True) rfl rfl (fun K' hK => ?_)
              go_simp
              go_at_call 127
              refine (spec_l02At A B _ c _ d N x _ ((HN.out.below HK.out.bl).below hW.bl) rfl rfl).mono ?_
              rintro e' w5 ⟨v5, l5, rfl, hat5, hl5, hO5, hb5⟩
              refine hK.out _ _ ⟨(v5, l5), (by simp only [put, e0, e4]; rfl), fun j hj => by
                  have n6 : L 6 = false := no_later hc hl (by kernel_rfl)
                  match j, hj with
                  | 0, _ => rfl
                  | 1, _ => rfl
                  | 2, _ => rfl
                  | 3, _ => rfl
                  | 4, _ => rfl
                  | 5, hj => rw [hl] at hj; cases hj
                  | 6, hj => rw [n6] at hj; cases hj
                  | _ + 7, _ => rfl, hW.call hb5 ⟨hat5, hl5, hO5.lowG (by have := HK.out.sz; omega), HPP.out w5 v5 l5 wx hzx hO5⟩⟩
            · have e5 : u 5 = ρ.1 := hu 5 (all_of hp (by kernel_rfl))
              refine wpOp_go (E := True) rfl rfl (fun K' hK => ?_)
              go_simp
              refine hK.out _ _ ⟨ρ, (by simp only [put, e5]; rfl), fun _ _ => rfl, hW.pure (by omega)⟩
          · intro L ρ u wx hall hu hW
            obtain ⟨hat, hll, hown, hap⟩ := hW.pc (hall 5 (by show 5 < 7; omega))
            have e6 : u 6 = ρ.1 := hu 6 (by show 6 < 7; omega)
            have HK2 := Lib.hid (HK.out.below hW.bl)
            rw [e6]
            generalize ρ.1 = va at *
            generalize ρ.2 = la at *
            have HAT := Lib.hid hat
            have HOW := Lib.hid hown
            have HAP := Lib.hid hap
            clear hu hall hW HK HARR HPP e6 hat hown hap
            go_wp2_with fail
            go_loopw [9, 12, 13] (fun u t _ wv => ∃ (i : Nat) (E : List Int) (S : List Bool) (O' : List Int), t = .int .i64 i ∧ i ≤ la.length ∧ k < O'.length ∧ O'[k]? = some x ∧ GsI w A B c d N u E S O' wv ∧ Own wv (w.heap.size + 3) 2 1 va la.length (la.map iV) ∧ Apart u va) (fun _ t _ _ => la.length - (intOf t).toNat)
            case atStart => exact ⟨0, E, S, O, rfl, by omega, hlt, HXk.out, HK2.out, HOW.out, HAP.out⟩
            case round =>
              clear HK2 HOW HAP HXk hgb hcap hlt g1
              obtain ⟨i, E, S, O, rfl, hi, hkO, hx, hI, hown, hap⟩ := hrel
              have HK := Lib.hid hI
              have HOW := Lib.hid hown
              have HAP := Lib.hid hap
              have HXk := Lib.hid hx
              have hle := hI.le
              have hsz := hI.sz
              clear hI hown hap hx
              by_cases hlt : i < la.length
              · obtain ⟨y, hy⟩ := get_some hlt
                obtain ⟨q, p, rfl, hq, hft⟩ := HAT.out y (List.mem_of_getElem? hy)
                obtain ⟨p1, p2, p3, p4⟩ := pipe_ftG HO.out (List.mem_of_getElem? hq)
                have hqlt : q < N.pipes.length := (List.getElem?_eq_some_iff.1 hq).1
                obtain ⟨tn, htn⟩ : ∃ tn : Nat, p.f + p.t - x = tn := ⟨(p.f + p.t - x).toNat, by rcases hft with h | h <;> omega⟩
                have htl : tn < N.nodes.length := by rcases hft with h | h <;> omega
                obtain ⟨ga, ca, hva, hgab, hca, haa⟩ := HOW.out.arr (by omega)
                obtain ⟨g2, cap2, hu9, hgb, hcap, harr⟩ := HK.out.o.arr (by omega)
                have HAA := Lib.hid haa
                have HARR := Lib.hid harr
                have HY := Lib.hid hy
                have HQ := Lib.hid hq
                have HTN := Lib.hid htn
                have g1 : (i : Int) < la.length := by omega
                have g2' : (k : Int) < O.length := by omega
                have g3 : (tn : Int) < N.nodes.length := by omega
                clear haa harr hy hq htn hft
                subst hva hu9
                go_wp2_with fail
                refine wp_region_tb (R := Value × List Int) [some 54, some 55, some 56, some 57, some 58, some 59, some 60, some 61, some 62, some 63, some 13] _ (by intro u; simp only [frs, Act.put, List.setIfInBounds_toArray, List.set_cons_zero, List.set_cons_succ, Nat.reduceAdd]; exact rfl) (fun ρ j => ([.agg #[.slice A N.nodes.length c, .slice B N.pipes.length d], .slice (some ⟨ga, 0, none⟩) la.length ca, .int .i64 i, .pointer (some ⟨ga, i, none⟩), .int .i64 (q : Nat), .slice (some ⟨g2, 0, none⟩) O.length cap2, .int .i64 k, .pointer (some ⟨g2, k, none⟩), .int .i64 x, .int .i64 (tn : Nat), .int .i64 (tn : Nat)] : List Value).getD j undef) (WC 9 (fun _ _ _ => True) wr) (by kernel_rfl) (by kernel_rfl) (undef, []) (WC.start (Below.drew (Below.refl _ _))) ?_ ?_
                · intro ii hii L ρ u wx hl hp hc hu hn hW
                  have hii : ii < 11 := hii
                  have HNo := Lib.hid hn
                  clear hn
                  have hzx := hW.bl.size
                  have hii : ii = 0 ∨ ii = 1 ∨ ii = 2 ∨ ii = 3 ∨ ii = 4 ∨ ii = 5 ∨ ii = 6 ∨ ii = 7 ∨ ii = 8 ∨ ii = 9 ∨ ii = 10 := by omega
                  rcases hii with rfl | rfl | rfl | rfl | rfl | rfl | rfl | rfl | rfl | rfl | rfl
                  · have hbx := HK.out.bx.below hW.bl HK.out.bx.lt
                    have xx0 := hbx.cell 0 rfl
                    have xx1 := hbx.cell 1 rfl
                    refine wpOp_go (E := True) rfl rfl (fun K' hK => ?_)
                    go_simp
                    refine hK.out _ _ ⟨ρ, (by simp only [put]; rfl), fun _ _ => rfl, hW.pure (by omega)⟩
                  · refine wpOp_go (E := True) rfl rfl (fun K' hK => ?_)
                    go_simp
                    refine hK.out _ _ ⟨ρ, (by simp only [put]; rfl), fun _ _ => rfl, hW.pure (by omega)⟩
                  · refine wpOp_go (E := True) rfl rfl (fun K' hK => ?_)
                    go_simp
                    refine hK.out _ _ ⟨ρ, (by simp only [put]; rfl), fun _ _ => rfl, hW.pure (by omega)⟩
                  · have e1 : u 1 = .slice (some ⟨ga, 0, none⟩) la.length ca := hu 1 (all_of hp (by kernel_rfl))
                    have e2 : u 2 = .int .i64 i := hu 2 (all_of hp (by kernel_rfl))
                    refine wpOp_go (E := True) rfl rfl (fun K' hK => ?_)
                    go_simp
                    refine hK.out _ _ ⟨ρ, (by simp only [put, e1, e2]; rfl), fun _ _ => rfl, hW.pure (by omega)⟩
                  · have e3 : u 3 = .pointer (some ⟨ga, i, none⟩) := hu 3 (all_of hp (by kernel_rfl))
                    have t_0 := ints_cell (HAA.out.below hW.bl HAA.out.lt) HY.out
                    refine wpOp_go (E := True) rfl rfl (fun K' hK => ?_)
                    go_simp
                    refine hK.out _ _ ⟨ρ, (by simp only [put, e3]; rfl), fun _ _ => rfl, hW.pure (by omega)⟩
                  · refine wpOp_go (E := True) rfl rfl (fun K' hK => ?_)
                    go_simp
                    refine hK.out _ _ ⟨ρ, (by simp only [put]; rfl), fun _ _ => rfl, hW.pure (by omega)⟩
                  · refine wpOp_go (E := True) rfl rfl (fun K' hK => ?_)
                    go_simp
                    refine hK.out _ _ ⟨ρ, (by simp only [put]; rfl), fun _ _ => rfl, hW.pure (by omega)⟩
                  · have e5 : u 5 = .slice (some ⟨g2, 0, none⟩) O.length cap2 := hu 5 (all_of hp (by kernel_rfl))
                    have e6 : u 6 = .int .i64 k := hu 6 (all_of hp (by kernel_rfl))
                    refine wpOp_go (E := True) rfl rfl (fun K' hK => ?_)
                    go_simp
                    refine hK.out _ _ ⟨ρ, (by simp only [put, e5, e6]; rfl), fun _ _ => rfl, hW.pure (by omega)⟩
                  · have e7 : u 7 = .pointer (some ⟨g2, k, none⟩) := hu 7 (all_of hp (by kernel_rfl))
                    have t_0 := ints_cell (HARR.out.below hW.bl HARR.out.lt) HXk.out
                    refine wpOp_go (E := True) rfl rfl (fun K' hK => ?_)
                    go_simp
                    refine hK.out _ _ ⟨ρ, (by simp only [put, e7]; rfl), fun _ _ => rfl, hW.pure (by omega)⟩
                  · have e0 : u 0 = .agg #[.slice A N.nodes.length c, .slice B N.pipes.length d] := hu 0 (all_of hp (by kernel_rfl))
                    have e4 : u 4 = .int .i64 (q : Nat) := hu 4 (all_of hp (by kernel_rfl))
                    have e8 : u 8 = .int .i64 x := hu 8 (all_of hp (by kernel_rfl))
                    refine wpOp_go (E := True) rfl rfl (fun K' hK => ?_)
                    go_simp
                    go_at_call 128
                    refine (spec_l02Other A B _ c _ d N q p x _ ((HN.out.below HK.out.bl).below hW.bl) rfl HQ.out ⟨p1, by omega⟩ ⟨p3, by omega⟩ ⟨x0, by omega⟩).mono ?_
                    rintro e' w5 ⟨rfl, hb5⟩
                    rw [HTN.out]
                    refine hK.out _ _ ⟨ρ, (by simp only [put, e0, e4, e8]; rfl), fun _ _ => rfl, hW.call (v := ρ.1) (l := ρ.2) hb5 trivial⟩
                  · have e9 : u 9 = .int .i64 (tn : Nat) := hu 9 (all_of hp (by kernel_rfl))
                    refine wpOp_go (E := True) rfl rfl (fun K' hK => ?_)
                    go_simp
                    refine hK.out _ _ ⟨ρ, (by simp only [put, e9]; rfl), fun _ _ => rfl, hW.pure (by omega)⟩
                · intro L ρ u wx hall hu hW
                  have e10 : u 10 = .int .i64 (tn : Nat) := hu 10 (by show 10 < 11; omega)
                  have HK3 := Lib.hid (HK.out.below hW.bl)
                  have HOW3 := Lib.hid (HOW.out.below hW.bl (Nat.le_refl _))
                  have HAA3 := Lib.hid (HAA.out.below hW.bl HAA.out.lt)
                  have hz3 := HK3.out.sz
                  clear hu hall hW HK HOW HAA HARR
                  obtain ⟨b, hb⟩ := get_some (l := S) (k := tn) (by rw [HK3.out.sl]; exact htl)
                  have s0 := bls_cell HK3.out.a2 hb
                  have HS0 := Lib.hid hb
                  clear hb
                  rw [e10]
                  clear e10
                  cases b
                  · obtain ⟨y0, hy0⟩ := get_some (l := E) (k := tn) (by rw [HK3.out.el]; exact htl)
                    have s1 := HK3.out.a2.free (j := tn) htl
                    have s2 := ints_cell HK3.out.a1 hy0
                    have s3 := HK3.out.a1.free (j := tn) htl
                    have s4 := ints_cell HAA3.out HY.out
                    have n1 : ¬ ga = w.heap.size + 1 + 1 := by omega
                    have n2 : ¬ w.heap.size + 1 + 1 = ga := by omega
                    have n3 : ¬ ga = w.heap.size + 1 := by omega
                    have n4 : ¬ w.heap.size + 1 = ga := by omega
                    clear hy0
                    go_wp2_with ((at_builtin; refine wp_app1x _ rfl (.tmp 79) (.tmp 81) 38 rfl (w.heap.size + 3) info_i64 Tryz.underlying38 rfl (by omega) (by omega) _ _ _ rfl (((HK3.out.o.set_below (a := ⟨w.heap.size + 1 + 1, tn, none⟩) (by simp) (.bool true)).set_below (a := ⟨w.heap.size + 1, tn, none⟩) (by simp) (.int .i64 (q : Nat))).alloc _) _ 1 1 [iV tn] rfl rfl (by intro j u hu; match j, hu with | 0, hu => (simp at hu; subst hu; exact cell_new1 _ _ _ _ (by simp)) | j + 1, hu => simp at hu) (by simp [Value.oneCell']) (by omega) (by omega) (by first | omega | (simp; done) | (simp; omega)) ?_; intro v6 w6 hO6 hb6 hF6))
                    have HP6 := Lib.hid (HK3.out.push HS0.out hqlt hO6 hb6)
                    have HOW6 := Lib.hid (hF6.own (((HOW3.out.set_below (a := ⟨w.heap.size + 1 + 1, tn, none⟩) (by simp) (.bool true)).set_below (a := ⟨w.heap.size + 1, tn, none⟩) (by simp) (.int .i64 (q : Nat))).alloc _) HAP.out)
                    have HAP6 := Lib.hid (hF6.apart (((HOW3.out.set_below (a := ⟨w.heap.size + 1 + 1, tn, none⟩) (by simp) (.bool true)).set_below (a := ⟨w.heap.size + 1, tn, none⟩) (by simp) (.int .i64 (q : Nat))).alloc _) HAP.out)
                    clear hO6 hb6 hF6
                    go_roundw
                    case rel => exact ⟨i + 1, _, _, O ++ [(tn : Int)], by go_num, by omega, by simp; omega, by rw [List.getElem?_append_left hkO]; exact HXk.out, HP6.out, HOW6.out, HAP6.out⟩
                    case measure => simp [intOf]; omega
                  · go_wp2
                    go_roundw
                    case rel => exact ⟨i + 1, E, S, O, by go_num, by omega, hkO, HXk.out, HK3.out, HOW3.out, HAP.out⟩
                    case measure => simp [intOf]; omega
              · have g1 : ¬ (i : Int) < la.length := by omega
                obtain ⟨Aa, ca, rfl, -, -, -⟩ := HOW.out.val
                go_wp2_with fail
                go_roundw
                case rel => exact ⟨k + 1, E, S, O, by go_num, by omega, HK.out⟩
                case measure => simp [intOf]; omega
        · have hkE : k = O.length := by omega
          have g1 : ¬ (k : Int) < O.length := by omega
          obtain ⟨A2, c2, rfl, hc2, hR2, hb2⟩ := HK.out.o.val
          have HR2 := Lib.hid hR2
          have HB2 := Lib.hid hb2
          clear hR2 hb2
          go_wp2
          go_ret2
          have hE := HK.out.a1.rd
          exact ⟨some ⟨w.heap.size + 1, 0, none⟩, A2, N.nodes.length, c2, E, O, by rw [HK.out.el]; rfl, HK.out.el, HK.out.eb, HK.out.le, HK.out.ob, hE, HR2.out, fun b off e => by injection e with e; injection e with e1; omega, fun b off e => by have := HB2.out b off e; omega, HK.out.bl⟩
end Go.Proofs.YtbdacplndmnkhaaGreatDoor
