/- Searches of a network: what they hand back lies within bounds. -/
import Derived.Test.YtbdacplndmnkhaaGreatDoorTb
import Derived.Test.YtbdacplndmnkhaaGreatDoorSp
import Derived.Test.YtbdacplndmnkhaaGreatDoorAp2
import Derived.Test.YtbdacplndmnkhaaGreatDoorNt4
namespace Go.Proofs.YtbdacplndmnkhaaGreatDoor
set_option linter.unusedVariables false
set_option linter.unusedSimpArgs false
open Go.RowKit
/-- a region with one call that makes a slice of its own -/
structure WC (kc : Nat) (P : Value → List Int → World → Prop) (w0 : World) (L : Nat → Bool) (ρ : Value × List Int) (w : World) : Prop where
  bl : Below w0.heap.size w0 w
  pc : L kc = true → P ρ.1 ρ.2 w
theorem WC.start {kc : Nat} {P : Value → List Int → World → Prop} {w0 w : World} {ρ : Value × List Int} (h : Below w0.heap.size w0 w) : WC kc P w0 (fun _ => false) ρ w := ⟨h, fun h => by cases h⟩
theorem WC.pure {kc i : Nat} {P : Value → List Int → World → Prop} {w0 w : World} {L : Nat → Bool} {ρ : Value × List Int} (h : WC kc P w0 L ρ w) (hi : kc ≠ i) : WC kc P w0 (upd L i) ρ w := ⟨h.bl, by rw [upd_ne hi]; exact h.pc⟩
theorem WC.call {kc : Nat} {P : Value → List Int → World → Prop} {w0 w w' : World} {L : Nat → Bool} {ρ : Value × List Int} (h : WC kc P w0 L ρ w) (hb : Below w.heap.size w w') {v : Value} {l : List Int} (hp : P v l w') : WC kc P w0 (upd L kc) (v, l) w' :=
  ⟨h.bl.trans (hb.mono h.bl.size), fun _ => hp⟩
theorem Own.lowG {w : World} {base base' : Nat} {e : TypeId} {s n : Nat} {v : Value} {xs : List Value} (h : Own w base e s v n xs) (hb : base' ≤ base) : Own w base' e s v n xs := by
  refine ⟨h.1, ?_⟩
  rcases h.2 with h0 | ⟨g, cap, cur, hv, hg, r⟩
  · exact .inl h0
  · exact .inr ⟨g, cap, cur, hv, by omega, r⟩
def AtOk (N : Net) (node : Int) (l : List Int) : Prop := ∀ x ∈ l, ∃ (k : Nat) (p : Pp), x = k ∧ N.pipes[k]? = some p ∧ (p.f = node ∨ p.t = node)
theorem AtOk.snoc {N : Net} {node : Int} {l : List Int} {k : Nat} {p : Pp} (h : AtOk N node l) (hp : N.pipes[k]? = some p) (hn : p.f = node ∨ p.t = node) : AtOk N node (l ++ [(k : Int)]) := fun x hx => by
  rcases List.mem_append.1 hx with hx | hx
  · exact h x hx
  · rw [List.mem_singleton.1 hx]; exact ⟨k, p, rfl, hp, hn⟩
theorem drop_k {α : Type} {l : List α} {k : Nat} (h : k < l.length) : (k : Int) < l.length := by omega
set_option maxRecDepth 100000 in
set_option maxHeartbeats 4000000 in
theorem spec_l02At (A B : Option Addr) (n c m d : Nat) (N : Net) (node : Int) (w : World) (hN : NetAt w A B N) (hn : n = N.nodes.length) (hm : m = N.pipes.length) :
    Calls Tryz.prog 127 #[netV A B n c m d, .int .i64 node] w fun e w' => ∃ (v : Value) (l : List Int), e = .returned v ∧ AtOk N node l ∧ l.length ≤ N.pipes.length ∧ Own w' w.heap.size 2 1 v l.length (l.map iV) ∧ Below w.heap.size w w' := by
  subst hn hm
  have HN := Lib.hid hN
  have hlp := hN.lp
  have H0 := Lib.hid (Own.lit0 (w.alloc (.cells #[.slice A N.nodes.length c, .slice B N.pipes.length d] 34)) (w.heap.size + 1) 2 1 (by simp))
  clear hN
  go_enter Tryz.func127, Tryz.ntmps127
  go_wp2
  go_loopw [5, 6] (fun u v wr => ∃ (k : Nat) (l : List Int), k ≤ N.pipes.length ∧ v = .int .i64 k ∧ l.length ≤ k ∧ AtOk N node l ∧ Own wr (w.heap.size + 1) 2 1 u l.length (l.map iV) ∧ Bx wr w.heap.size [.slice A N.nodes.length c, .slice B N.pipes.length d] ∧ Below w.heap.size w wr) (fun _ v _ => N.pipes.length - (intOf v).toNat)
  case atStart => exact ⟨0, [], by omega, rfl, by simp, (fun x hx => by simp at hx), by simpa using H0.out, (bx2 (by first | exact hy0 | go_size) (by first | (with_reducible exact cw0_0) | go_cell_look | (simp [go_sem, hy0, cw0_0, fw0_0, cw0_1, fw0_1]; done) | (simp [go_sem]; done)) (by first | (with_reducible exact fw0_0) | (simp only [World.frozen?_setCell, fw0_0]; done) | (simp [go_sem, hy0, cw0_0, fw0_0, cw0_1, fw0_1]; done) | (simp [go_sem]; done)) (by first | (with_reducible exact cw0_1) | go_cell_look | (simp [go_sem, hy0, cw0_0, fw0_0, cw0_1, fw0_1]; done) | (simp [go_sem]; done)) (by first | (with_reducible exact fw0_1) | (simp only [World.frozen?_setCell, fw0_1]; done) | (simp [go_sem, hy0, cw0_0, fw0_0, cw0_1, fw0_1]; done) | (simp [go_sem]; done))), by (repeat' (first | (with_reducible exact Below.refl _ _) | (with_reducible assumption) | (with_reducible refine Below.alloc ?_ ?_ _) | (with_reducible refine Below.drew ?_) | (with_reducible refine Below.drewN' ?_ _) | (with_reducible refine Below.setCell ?_ ?_ _) | (refine Below.via ?_ (by with_reducible assumption) ?_) | (with_reducible refine Below.via ?_ (Wd.h _) ?_) | go_size))⟩
  case round =>
    clear H0
    obtain ⟨k, l, hk, rfl, hl, hat, hO, hB, hbw⟩ := hrel
    have hbH := Lib.hid hbw
    have HAT := Lib.hid hat
    have HOW := Lib.hid hO
    have HBX := Lib.hid hB
    have hy0 := hB.lt; have cw0_0 := hB.cell 0 rfl; have fw0_0 := hB.frozen 0 rfl; have cw0_1 := hB.cell 1 rfl; have fw0_1 := hB.frozen 1 rfl
    have hyr := hy0
    clear hat hO hB
    by_cases hlt : k < N.pipes.length
    · have HP := Lib.hid HN.out.pipes
      obtain ⟨x, hx⟩ := get_some hlt; obtain ⟨bx, offx, rfl, hbx, hat⟩ := HP.out.opened (k := k) (by rw [flat_len Pp.len]; omega); have hat' := hat.below hbw hbx; have hybx : bx < wr.heap.size := Nat.lt_of_lt_of_le hbx hbw.size; have hzw := hbw.size; have t0 := hat'.elem0 Pp.len hx rfl; have t1 := hat'.elem Pp.len hx 1 rfl; have t2 := hat'.elem Pp.len hx 2 rfl; have t3 := hat'.elem Pp.len hx 3 rfl; have t4 := hat'.elem Pp.len hx 4 rfl; have HX := Lib.hid hx; have HD := Lib.hid (drop_cons hx); have gx : (k : Int) < _ := Int.ofNat_lt.2 hlt; clear hx hat hat'
      clear hbw
      by_cases h1 : x.f = node ∨ x.t = node
      · have H1 := Lib.hid h1
        rcases h1 with h1 | h1
        · have b1 : (x.f == node) = true := by simpa using h1
          clear h1
          go_wp2_with ((at_builtin; refine wp_app1x _ rfl (.tmp 33) (.tmp 35) 38 rfl (w.heap.size + 1) info_i64 Tryz.underlying38 rfl (by omega) (by omega) _ _ _ rfl (HOW.out.alloc _) _ 1 1 [iV k] rfl rfl (by intro j u hu; match j, hu with | 0, hu => (simp at hu; subst hu; simp) | j + 1, hu => simp at hu) (by simp [Value.oneCell']) (by omega) (by omega) (by simp; omega) ?_; intro v3 w3 hO3 hb3 hF3))
          have hb4 := (Below.alloc (Below.refl (w.heap.size + 1) wr) (by omega) _).trans hb3
          have HB3 := Lib.hid (HBX.out.below hb4 (by omega))
          go_roundw
          case rel => exact ⟨k + 1, l ++ [(k : Int)], by omega, by go_num, by simp; omega, HAT.out.snoc HX.out H1.out, by simpa using hO3, HB3.out, by have h1 := hbH.out; exact h1.trans (hb4.mono (by omega))⟩
          case measure => simp [intOf]; omega
        · have b2 : (x.t == node) = true := by simpa using h1
          clear h1
          cases b1 : (x.f == node)
          all_goals
            go_wp2_with ((at_builtin; refine wp_app1x _ rfl (.tmp 33) (.tmp 35) 38 rfl (w.heap.size + 1) info_i64 Tryz.underlying38 rfl (by omega) (by omega) _ _ _ rfl (HOW.out.alloc _) _ 1 1 [iV k] rfl rfl (by intro j u hu; match j, hu with | 0, hu => (simp at hu; subst hu; simp) | j + 1, hu => simp at hu) (by simp [Value.oneCell']) (by omega) (by omega) (by simp; omega) ?_; intro v3 w3 hO3 hb3 hF3))
            have hb4 := (Below.alloc (Below.refl (w.heap.size + 1) wr) (by omega) _).trans hb3
            have HB3 := Lib.hid (HBX.out.below hb4 (by omega))
            go_roundw
            case rel => exact ⟨k + 1, l ++ [(k : Int)], by omega, by go_num, by simp; omega, HAT.out.snoc HX.out H1.out, by simpa using hO3, HB3.out, by have h1 := hbH.out; exact h1.trans (hb4.mono (by omega))⟩
            case measure => simp [intOf]; omega
      · have b1 : (x.f == node) = false := by simpa using fun h => h1 (Or.inl h)
        have b2 : (x.t == node) = false := by simpa using fun h => h1 (Or.inr h)
        clear h1
        go_wp2
        go_roundw
        case rel => exact ⟨k + 1, l, by omega, by go_num, by omega, HAT.out, HOW.out, HBX.out, hbH.out⟩
        case measure => simp [intOf]; omega
    · clear hbw
      go_wp2
      go_ret
      exact ⟨_, l, rfl, HAT.out, by omega, HOW.out.lowG (by omega), hbH.out⟩
set_option maxRecDepth 100000 in
set_option maxHeartbeats 1000000 in
theorem spec_l02Other (A B : Option Addr) (n c m d : Nat) (N : Net) (k : Nat) (p : Pp) (node : Int) (w : World) (hN : NetAt w A B N) (hm : m = N.pipes.length) (hp : N.pipes[k]? = some p) (h1 : 0 ≤ p.f ∧ p.f ≤ 1000) (h2 : 0 ≤ p.t ∧ p.t ≤ 1000) (h3 : 0 ≤ node ∧ node ≤ 1000) :
    Calls Tryz.prog 128 #[netV A B n c m d, .int .i64 (k : Int), .int .i64 node] w fun e w' => e = .returned (.int .i64 (p.f + p.t - node)) ∧ Below w.heap.size w w' := by
  subst hm
  have hk := (List.getElem?_eq_some_iff.1 hp).1
  have g1 : (k : Int) < N.pipes.length := by omega
  obtain ⟨b, off, rfl, hb, hat⟩ := hN.pipes.opened (k := k) (by rw [flat_len Pp.len]; omega)
  have HT1 := Lib.hid (hat.elem0 Pp.len hp rfl)
  have HT2 := Lib.hid (hat.elem Pp.len hp 1 rfl)
  clear hN hat hp
  go_enter Tryz.func128, Tryz.ntmps128
  go_wp2_with fail
  (generalize hW : (World.alloc w _) = wn; have hbn : Below w.heap.size w wn := (by rw [← hW]; (repeat' (first | (with_reducible exact Below.refl _ _) | (with_reducible assumption) | (with_reducible refine Below.alloc ?_ ?_ _) | (with_reducible refine Below.drew ?_) | (with_reducible refine Below.drewN' ?_ _) | (with_reducible refine Below.setCell ?_ ?_ _) | (refine Below.via ?_ (by with_reducible assumption) ?_) | (with_reducible refine Below.via ?_ (Wd.h _) ?_) | go_size))); have hzn := congrArg (fun W => W.heap.size) hW; simp at hzn; have cw0_0 := congrArg (fun W => World.cell? W ⟨w.heap.size, 0, none⟩) hW.symm; have fw0_0 := congrArg (fun W => World.frozen? W ⟨w.heap.size, 0, none⟩) hW.symm; have hy0 : w.heap.size < wn.heap.size := (by omega); have cw0_1 := congrArg (fun W => World.cell? W ⟨w.heap.size, 1, none⟩) hW.symm; have fw0_1 := congrArg (fun W => World.frozen? W ⟨w.heap.size, 1, none⟩) hW.symm; simp [go_sem] at cw0_0 fw0_0 cw0_1 fw0_1; clear hW hzn)
  have hyb : b < wn.heap.size := Nat.lt_of_lt_of_le hb hbn.size
  have q5 := Wd.cell hyb ((hbn.cell (p := ⟨b, _, none⟩) hb).trans HT1.out)
  have q6 := Wd.cell hyb ((hbn.cell (p := ⟨b, _, none⟩) hb).trans HT2.out)
  (have qcw0_0 := Wd.cell hy0 cw0_0; have qcw0_1 := Wd.cell hy0 cw0_1; (refine wp_region_wd (by kernel_rfl) (by kernel_rfl) ?_); (repeat (go_big_quiet_step ((first | fail)))); (refine wpQuiet_nil ?_); rintro wn ⟨⟨w'', hbn⟩, hw''⟩; obtain rfl : wn = w'' := hw''; clear qcw0_0 qcw0_1; (obtain ⟨hcn, hfn⟩ := bcell hbn; have hzn := hbn.size; (try simp at hzn); have Ncw0_0 := hcn (w.heap.size) (0) (by first | omega | (simp; done) | (simp; omega)); have Nfw0_0 := hfn (w.heap.size) (0) (by first | omega | (simp; done) | (simp; omega)); have Nhy0 : w.heap.size < wn.heap.size := (by omega); have Ncw0_1 := hcn (w.heap.size) (1) (by first | omega | (simp; done) | (simp; omega)); have Nfw0_1 := hfn (w.heap.size) (1) (by first | omega | (simp; done) | (simp; omega)); (first | (simp [go_sem, cw0_0, fw0_0, cw0_1, fw0_1, hy0] at Ncw0_0 Nfw0_0 Ncw0_1 Nfw0_1; clear cw0_0 fw0_0 cw0_1 fw0_1) | (simp [go_sem] at Ncw0_0 Nfw0_0 Ncw0_1 Nfw0_1)); clear hcn hfn; have cw0_0 := Ncw0_0; have fw0_0 := Nfw0_0; have cw0_1 := Ncw0_1; have fw0_1 := Nfw0_1; have hy0 := Nhy0; clear Ncw0_0 Nfw0_0 Ncw0_1 Nfw0_1 Nhy0))
  clear q5 q6
  go_wp2
  go_ret
  exact ⟨rfl, by (repeat' (first | (with_reducible exact Below.refl _ _) | (with_reducible assumption) | (with_reducible refine Below.alloc ?_ ?_ _) | (with_reducible refine Below.drew ?_) | (with_reducible refine Below.drewN' ?_ _) | (with_reducible refine Below.setCell ?_ ?_ _) | (refine Below.via ?_ (by with_reducible assumption) ?_) | (with_reducible refine Below.via ?_ (Wd.h _) ?_) | go_size))⟩
set_option maxRecDepth 100000 in
set_option maxHeartbeats 1000000 in
theorem spec_l02Has (A : Option Addr) (c n : Nat) (l : List Int) (x : Int) (w : World) (h : Rd w A (l.map iV)) (hn : n = l.length) (hl : l.length ≤ 1048576) :
    Calls Tryz.prog 96 #[.slice A n c, .int .i64 x] w fun e w' => ∃ b : Bool, e = .returned (.bool b) ∧ Below w.heap.size w w' := by
  subst hn
  have H := Lib.hid h
  clear h
  go_enter Tryz.func96, Tryz.ntmps96
  go_wp2
  go_loopw [5] (fun v wr => ∃ k : Nat, k ≤ l.length ∧ v = .int .i64 k ∧ Below w.heap.size w wr) (fun v _ => l.length - (intOf v).toNat)
  case atStart => exact ⟨0, by omega, rfl, Below.refl _ _⟩
  case round =>
    obtain ⟨k, hk, rfl, hbw⟩ := hrel
    have hbH := Lib.hid hbw
    by_cases hlt : k < l.length
    · obtain ⟨y, hy⟩ := get_some hlt
      obtain ⟨b, off, rfl, hb, hat⟩ := H.out.opened (k := k) (by simpa using hlt)
      have t0 := ints_at (hat.below hbw hb) hy
      clear hy hat hbw
      cases b1 : (y == x)
      · go_wp2
        go_roundw
        case rel => exact ⟨k + 1, by omega, by go_num, hbH.out⟩
        case measure => simp [intOf]; omega
      · go_wp2
        go_ret
        exact ⟨true, rfl, hbH.out⟩
    · clear hbw
      go_wp2
      go_ret
      exact ⟨false, rfl, hbH.out⟩
end Go.Proofs.YtbdacplndmnkhaaGreatDoor
