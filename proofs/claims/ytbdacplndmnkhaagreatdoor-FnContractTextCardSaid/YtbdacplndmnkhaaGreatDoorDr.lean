/- The source of drawn numbers: it hands out numbers within bounds and writes to itself alone. -/
import Derived.Test.YtbdacplndmnkhaaGreatDoorKp
import Derived.Test.YtbdacplndmnkhaaGreatDoorAQ
import Derived.Test.YtbdacplndmnkhaaGreatDoorNt1
import Derived.Test.YtbdacplndmnkhaaGreatDoorOpenB
import Derived.Deep.RegionHeld3
namespace Go.Proofs.YtbdacplndmnkhaaGreatDoor
set_option linter.unusedVariables false
set_option linter.unusedSimpArgs false
open Go.RowKit
theorem bytes_at {w : World} {b off : Nat} {l : List Int} (h : RdAt w b off (l.map bV)) {k : Nat} {n : Int} (hk : l[k]? = some n) : w.cell? ⟨b, off + k, none⟩ = some (.int .u8 n) :=
  h k _ (by rw [List.getElem?_map, hk]; rfl)
/-- block p is a source over the bytes l -/
structure SrcP (w : World) (p : Nat) (A : Option Addr) (c : Nat) (l : List Int) (at_ seed : Int) : Prop where
  bx : Bx w p [.slice A l.length c, .int .i64 at_, .int .i64 seed]
  a0 : 0 ≤ at_
  a1 : at_ ≤ l.length
  s0 : 0 ≤ seed
  s1 : seed ≤ 2147483647
  rd : Rd w A (l.map bV)
  by_ : ∀ x ∈ l, 0 ≤ x ∧ x ≤ 255
  ln : l.length ≤ 4096
  ne : ∀ b off, A = some ⟨b, off, none⟩ → l ≠ [] → b < p
def Src (w : World) (p : Nat) : Prop := ∃ A c l at_ seed, SrcP w p A c l at_ seed
theorem Src.lt {w : World} {p : Nat} (h : Src w p) : p < w.heap.size := by obtain ⟨_, _, _, _, _, h⟩ := h; exact h.bx.lt
theorem Bx.keep {S : Nat → Prop} {w w' : World} {b : Nat} {cs : List Value} (h : Bx w b cs) (hk : Keep S w w') (hs : ¬ S b) : Bx w' b cs :=
  ⟨Nat.lt_of_lt_of_le h.1 hk.size, fun k v e => ⟨(hk.cell b k h.1 hs).trans (h.2 k v e).1, (hk.frozen b k h.1 hs).trans (h.2 k v e).2⟩⟩
theorem SrcP.below {w w' : World} {p c : Nat} {A : Option Addr} {l : List Int} {at_ seed : Int} (h : SrcP w p A c l at_ seed) (hb : Below w.heap.size w w') : SrcP w' p A c l at_ seed :=
  ⟨h.bx.below hb h.bx.lt, h.a0, h.a1, h.s0, h.s1, h.rd.below hb, h.by_, h.ln, h.ne⟩
theorem Src.below {w w' : World} {p : Nat} (h : Src w p) (hb : Below w.heap.size w w') : Src w' p := by
  obtain ⟨A, c, l, a, s, h⟩ := h; exact ⟨A, c, l, a, s, h.below hb⟩
theorem Src.high {w w' : World} {p B : Nat} (h : Src w p) (hb : Below B w w') (hB : p < B) : Src w' p := by
  obtain ⟨A, c, l, a, s, h⟩ := h
  refine ⟨A, c, l, a, s, h.bx.below hb hB, h.a0, h.a1, h.s0, h.s1, ?_, h.by_, h.ln, h.ne⟩
  intro hne
  obtain ⟨b, off, e, hlt, hat⟩ := h.rd hne
  have := h.ne b off e (by simpa using hne)
  exact ⟨b, off, e, Nat.lt_of_lt_of_le hlt hb.size, hat.below hb (by omega)⟩
/-- behind a draw of a number below n: the number, the source again, all else kept -/
def Drew (w : World) (p : Nat) (n : Int) (e : Ending) (w' : World) : Prop :=
  ∃ r : Int, e = .returned (.int .i64 r) ∧ 0 ≤ r ∧ (n ≤ 1 → r = 0) ∧ (1 < n → r < n) ∧ Src w' p ∧ Keep (· = p) w w'
theorem SrcP.next {w w' : World} {p c : Nat} {A : Option Addr} {l : List Int} {a s a' s' : Int} (h : SrcP w p A c l a s) (hk : Keep (· = p) w w') (hb : Bx w' p [.slice A l.length c, .int .i64 a', .int .i64 s'])
    (h1 : 0 ≤ a') (h2 : a' ≤ l.length) (h3 : 0 ≤ s') (h4 : s' ≤ 2147483647) : Src w' p :=
  ⟨A, c, l, a', s', hb, h1, h2, h3, h4, by
    by_cases he : l = []
    · subst he; exact Rd.nil
    · exact h.rd.keep hk (fun b off e hp => by have := h.ne b off e he; (try simp only at hp); omega), h.by_, h.ln, h.ne⟩
theorem Keep.one {a w : World} {p o : Nat} (h : Keep (· = p) a w) (u : Value) : Keep (· = p) a (w.setCell ⟨p, o, none⟩ u) := h.setCell (p := ⟨p, o, none⟩) rfl u
theorem Keep.cellp {w w' : World} {p : Nat} (h : Keep (· = p) w w') : ∀ b o, b < w.heap.size → ¬ b = p → w'.cell? ⟨b, o, none⟩ = w.cell? ⟨b, o, none⟩ := fun b o hb hp => h.cell b o hb hp
def pick (l : List Int) (k : Nat) : Int := l.getD k 0
theorem pick3 (a b c : Int) : ∀ k : Nat, k < 3 → (#[Value.int .i64 a, Value.int .i64 b, Value.int .i64 c] : Array Value)[k]? = some (.int .i64 (pick [a, b, c] k))
  | 0, _ => rfl
  | 1, _ => rfl
  | 2, _ => rfl
  | k + 3, h => by omega
theorem pick4 (a b c d : Int) : ∀ k : Nat, k < 4 → (#[Value.int .i64 a, Value.int .i64 b, Value.int .i64 c, Value.int .i64 d] : Array Value)[k]? = some (.int .i64 (pick [a, b, c, d] k))
  | 0, _ => rfl
  | 1, _ => rfl
  | 2, _ => rfl
  | 3, _ => rfl
  | k + 4, h => by omega
theorem pick5 (a b c d e : Int) : ∀ k : Nat, k < 5 → (#[Value.int .i64 a, Value.int .i64 b, Value.int .i64 c, Value.int .i64 d, Value.int .i64 e] : Array Value)[k]? = some (.int .i64 (pick [a, b, c, d, e] k))
  | 0, _ => rfl
  | 1, _ => rfl
  | 2, _ => rfl
  | 3, _ => rfl
  | 4, _ => rfl
  | k + 5, h => by omega
theorem pick_bd {lo hi : Int} (h0 : lo ≤ 0) (h1 : 0 ≤ hi) : ∀ (l : List Int), (∀ x ∈ l, lo ≤ x ∧ x ≤ hi) → ∀ k, lo ≤ pick l k ∧ pick l k ≤ hi
  | [], _, k => by simp [pick]; omega
  | x :: l, h, 0 => by simpa [pick] using h x (by simp)
  | x :: l, h, k + 1 => by simpa [pick] using pick_bd h0 h1 l (fun y hy => h y (by simp [hy])) k
theorem lit3 {w w' : World} {p k : Nat} {t : TypeId} {a b c : Int} (hk : Keep (· = p) (w.alloc (.cells #[Value.int .i64 a, Value.int .i64 b, Value.int .i64 c] t)).drew w') (hp : ¬ w.heap.size = p) (h : k < 3) : w'.cell? ⟨w.heap.size, k, none⟩ = some (.int .i64 (pick [a, b, c] k)) := by
  refine (hk.cell w.heap.size k (by simp) hp).trans ?_
  simp only [World.cell?_drew]
  refine Eq.trans ?_ (pick3 a b c k h)
  simp
theorem lit4 {w w' : World} {p k : Nat} {t : TypeId} {a b c d : Int} (hk : Keep (· = p) (w.alloc (.cells #[Value.int .i64 a, Value.int .i64 b, Value.int .i64 c, Value.int .i64 d] t)).drew w') (hp : ¬ w.heap.size = p) (h : k < 4) : w'.cell? ⟨w.heap.size, k, none⟩ = some (.int .i64 (pick [a, b, c, d] k)) := by
  refine (hk.cell w.heap.size k (by simp) hp).trans ?_
  simp only [World.cell?_drew]
  refine Eq.trans ?_ (pick4 a b c d k h)
  simp
theorem lit5 {w w' : World} {p k : Nat} {t : TypeId} {a b c d e : Int} (hk : Keep (· = p) (w.alloc (.cells #[Value.int .i64 a, Value.int .i64 b, Value.int .i64 c, Value.int .i64 d, Value.int .i64 e] t)).drew w') (hp : ¬ w.heap.size = p) (h : k < 5) : w'.cell? ⟨w.heap.size, k, none⟩ = some (.int .i64 (pick [a, b, c, d, e] k)) := by
  refine (hk.cell w.heap.size k (by simp) hp).trans ?_
  simp only [World.cell?_drew]
  refine Eq.trans ?_ (pick5 a b c d e k h)
  simp
theorem pickL3 (a b c : Int) (k : Nat) (h : k < 3) : ([Value.int .i64 a, Value.int .i64 b, Value.int .i64 c] : List Value)[k]? = some (.int .i64 (pick [a, b, c] k)) := by
  have := pick3 a b c k h
  simpa using this
theorem litA3 (w : World) (t : TypeId) (a b c : Int) (k : Nat) (h : k < 3) : (w.alloc (.cells #[Value.int .i64 a, Value.int .i64 b, Value.int .i64 c] t)).cell? ⟨w.heap.size, k, none⟩ = some (.int .i64 (pick [a, b, c] k)) := by
  refine Eq.trans ?_ (pick3 a b c k h)
  simp
theorem pickL4 (a b c d : Int) (k : Nat) (h : k < 4) : ([Value.int .i64 a, Value.int .i64 b, Value.int .i64 c, Value.int .i64 d] : List Value)[k]? = some (.int .i64 (pick [a, b, c, d] k)) := by
  have := pick4 a b c d k h
  simpa using this
theorem litA4 (w : World) (t : TypeId) (a b c d : Int) (k : Nat) (h : k < 4) : (w.alloc (.cells #[Value.int .i64 a, Value.int .i64 b, Value.int .i64 c, Value.int .i64 d] t)).cell? ⟨w.heap.size, k, none⟩ = some (.int .i64 (pick [a, b, c, d] k)) := by
  refine Eq.trans ?_ (pick4 a b c d k h)
  simp
theorem pickL5 (a b c d e : Int) (k : Nat) (h : k < 5) : ([Value.int .i64 a, Value.int .i64 b, Value.int .i64 c, Value.int .i64 d, Value.int .i64 e] : List Value)[k]? = some (.int .i64 (pick [a, b, c, d, e] k)) := by
  have := pick5 a b c d e k h
  simpa using this
theorem litA5 (w : World) (t : TypeId) (a b c d e : Int) (k : Nat) (h : k < 5) : (w.alloc (.cells #[Value.int .i64 a, Value.int .i64 b, Value.int .i64 c, Value.int .i64 d, Value.int .i64 e] t)).cell? ⟨w.heap.size, k, none⟩ = some (.int .i64 (pick [a, b, c, d, e] k)) := by
  refine Eq.trans ?_ (pick5 a b c d e k h)
  simp
set_option maxRecDepth 100000 in
set_option maxHeartbeats 4000000 in
theorem spec_l01Next (p : Nat) (n : Int) (w : World) (h : Src w p) (hn : n ≤ 9223372036854775807) :
    Calls Tryz.prog 23 #[.pointer (some ⟨p, 0, none⟩), .int .i64 n] w (Drew w p n) := by
  by_cases h1 : n ≤ 1
  · go_enter Tryz.func23, Tryz.ntmps23
    go_wp2
    go_ret
    exact ⟨0, rfl, by omega, fun _ => rfl, fun h => by omega, h, Keep.refl _ _⟩
  obtain ⟨A, c, l, a, s, hP⟩ := h
  have HP := Lib.hid hP
  have hy_c := hP.bx.lt
  have c_0 := hP.bx.cell 0 rfl
  have c_1 := hP.bx.cell 1 rfl
  have c_2 := hP.bx.cell 2 rfl
  have c_0f := hP.bx.frozen 0 rfl
  have c_1f := hP.bx.frozen 1 rfl
  have c_2f := hP.bx.frozen 2 rfl
  obtain ⟨k, rfl⟩ := Int.eq_ofNat_of_zero_le hP.a0
  have a1 := hP.a1
  have s0 := hP.s0
  have s1 := hP.s1
  have hln := hP.ln
  clear hP
  have S0 : 0 ≤ (s * 48271 + 7) % 2147483647 := by omega
  have S1 : (s * 48271 + 7) % 2147483647 ≤ 2147483646 := by omega
  have h1' : decide (n ≤ 1) = false := by simpa using h1
  have h1n : 1 < n := by omega
  clear h1
  by_cases ha : k < l.length
  · obtain ⟨x, hx⟩ := get_some ha
    obtain ⟨b, off, rfl, hb, hat⟩ := HP.out.rd.opened (k := k) (by simpa using ha)
    have t_0 := bytes_at hat hx
    obtain ⟨x0, x1⟩ := HP.out.by_ x (List.mem_of_getElem? hx)
    have hbp : b ≠ p := by have := HP.out.ne b off rfl (by rintro rfl; simp at ha); omega
    have hy_t := hb
    have gk : (k : Int) < l.length := by omega
    clear hx hat
    go_enter Tryz.func23, Tryz.ntmps23
    go_wp2_with fail
    
    (generalize hW : World.setCell w _ _ = v1; have hzn := congrArg (fun W => W.heap.size) hW; simp at hzn; have Nc_0 := congrArg (fun W => World.cell? W ⟨p, 0, none⟩) hW.symm; have Nc_0f := congrArg (fun W => World.frozen? W ⟨p, 0, none⟩) hW.symm; have Nhy_c : p < v1.heap.size := (by omega); have Nc_1 := congrArg (fun W => World.cell? W ⟨p, 1, none⟩) hW.symm; have Nc_1f := congrArg (fun W => World.frozen? W ⟨p, 1, none⟩) hW.symm; have Nc_2 := congrArg (fun W => World.cell? W ⟨p, 2, none⟩) hW.symm; have Nc_2f := congrArg (fun W => World.frozen? W ⟨p, 2, none⟩) hW.symm; have Nt_0 := congrArg (fun W => World.cell? W ⟨b, off + k, none⟩) hW.symm; have Nhy_t : b < v1.heap.size := (by omega); simp [go_sem, c_0, c_0f, c_1, c_1f, c_2, c_2f, t_0, hy_c, hy_t] at Nc_0 Nc_0f Nc_1 Nc_1f Nc_2 Nc_2f Nt_0; clear c_0 c_0f c_1 c_1f c_2 c_2f t_0 hy_c hy_t; have c_0 := Nc_0; have c_0f := Nc_0f; have c_1 := Nc_1; have c_1f := Nc_1f; have c_2 := Nc_2; have c_2f := Nc_2f; have t_0 := Nt_0; have hy_c := Nhy_c; have hy_t := Nhy_t; clear Nc_0 Nc_0f Nc_1 Nc_1f Nc_2 Nc_2f Nt_0 Nhy_c Nhy_t)
    have K1 : Hid (Keep (· = p) w v1) := Lib.hid (by rw [← hW]; exact (Keep.refl _ _).one _)
    clear hW
    (have qc_0 := Wd.cell hy_c c_0; have qc_1 := Wd.cell hy_c c_1; have qc_2 := Wd.cell hy_c c_2; have qt_0 := Wd.cell hy_t t_0; (refine wp_region_wd (by kernel_rfl) (by kernel_rfl) ?_); (repeat (go_big_quiet_step ((first | fail)))); (refine wpQuiet_nil ?_); rintro wn ⟨⟨w'', hbn⟩, hw''⟩; obtain rfl : wn = w'' := hw''; clear qc_0 qc_1 qc_2 qt_0; (obtain ⟨hcn, hfn⟩ := bcell hbn; have hzn := hbn.size; (try simp at hzn); have Nc_0 := hcn (p) (0) (by first | omega | (simp; done) | (simp; omega)); have Nc_0f := hfn (p) (0) (by first | omega | (simp; done) | (simp; omega)); have Nhy_c : p < wn.heap.size := (by omega); have Nc_1 := hcn (p) (1) (by first | omega | (simp; done) | (simp; omega)); have Nc_1f := hfn (p) (1) (by first | omega | (simp; done) | (simp; omega)); have Nc_2 := hcn (p) (2) (by first | omega | (simp; done) | (simp; omega)); have Nc_2f := hfn (p) (2) (by first | omega | (simp; done) | (simp; omega)); have Nt_0 := hcn (b) (off + k) (by first | omega | (simp; done) | (simp; omega)); have Nhy_t : b < wn.heap.size := (by omega); (first | (simp [go_sem, c_0, c_0f, c_1, c_1f, c_2, c_2f, t_0, hy_c, hy_t] at Nc_0 Nc_0f Nc_1 Nc_1f Nc_2 Nc_2f Nt_0; clear c_0 c_0f c_1 c_1f c_2 c_2f t_0) | (simp [go_sem] at Nc_0 Nc_0f Nc_1 Nc_1f Nc_2 Nc_2f Nt_0)); clear hcn hfn; have c_0 := Nc_0; have c_0f := Nc_0f; have c_1 := Nc_1; have c_1f := Nc_1f; have c_2 := Nc_2; have c_2f := Nc_2f; have t_0 := Nt_0; have hy_c := Nhy_c; have hy_t := Nhy_t; clear Nc_0 Nc_0f Nc_1 Nc_1f Nc_2 Nc_2f Nt_0 Nhy_c Nhy_t))
    have K2 := Lib.hid (K1.out.trans (Keep.of_below _ hbn))
    go_wp2_with fail
    clear hbn hzn
    (have qc_0 := Wd.cell hy_c c_0; have qc_1 := Wd.cell hy_c c_1; have qc_2 := Wd.cell hy_c c_2; have qt_0 := Wd.cell hy_t t_0; (refine wp_region_wd (by kernel_rfl) (by kernel_rfl) ?_); (repeat (go_big_quiet_step ((first | fail)))); (refine wpQuiet_nil ?_); rintro wn ⟨⟨w'', hbn⟩, hw''⟩; obtain rfl : wn = w'' := hw''; clear qc_0 qc_1 qc_2 qt_0; (obtain ⟨hcn, hfn⟩ := bcell hbn; have hzn := hbn.size; (try simp at hzn); have Nc_0 := hcn (p) (0) (by first | omega | (simp; done) | (simp; omega)); have Nc_0f := hfn (p) (0) (by first | omega | (simp; done) | (simp; omega)); have Nhy_c : p < wn.heap.size := (by omega); have Nc_1 := hcn (p) (1) (by first | omega | (simp; done) | (simp; omega)); have Nc_1f := hfn (p) (1) (by first | omega | (simp; done) | (simp; omega)); have Nc_2 := hcn (p) (2) (by first | omega | (simp; done) | (simp; omega)); have Nc_2f := hfn (p) (2) (by first | omega | (simp; done) | (simp; omega)); have Nt_0 := hcn (b) (off + k) (by first | omega | (simp; done) | (simp; omega)); have Nhy_t : b < wn.heap.size := (by omega); (first | (simp [go_sem, c_0, c_0f, c_1, c_1f, c_2, c_2f, t_0, hy_c, hy_t] at Nc_0 Nc_0f Nc_1 Nc_1f Nc_2 Nc_2f Nt_0; clear c_0 c_0f c_1 c_1f c_2 c_2f t_0) | (simp [go_sem] at Nc_0 Nc_0f Nc_1 Nc_1f Nc_2 Nc_2f Nt_0)); clear hcn hfn; have c_0 := Nc_0; have c_0f := Nc_0f; have c_1 := Nc_1; have c_1f := Nc_1f; have c_2 := Nc_2; have c_2f := Nc_2f; have t_0 := Nt_0; have hy_c := Nhy_c; have hy_t := Nhy_t; clear Nc_0 Nc_0f Nc_1 Nc_1f Nc_2 Nc_2f Nt_0 Nhy_c Nhy_t))
    have K3 := Lib.hid (K2.out.trans (Keep.of_below _ hbn))
    clear hbn hzn
    go_wp2_with fail
    all_goals first
      | (go_ret; refine ⟨_, rfl, Int.emod_nonneg _ (by omega), fun h => by omega, fun _ => Int.emod_lt_of_pos _ (by omega), HP.out.next (a' := k + 1) (s' := (s * 48271 + 7) % 2147483647) (K3.out.one _) (bx3 (by simp; omega) (by simp [go_sem, c_0]) (by simp [go_sem, c_0f]) (by simp [go_sem, c_1]) (by simp [go_sem, c_1f]) (by simp [go_sem, c_2]) (by simp [go_sem, c_2f])) (by omega) (by omega) (by omega) (by omega), K3.out.one _⟩)
      | skip
    (generalize hW : World.setCell wn _ _ = v2; have hzn := congrArg (fun W => W.heap.size) hW; simp at hzn; have Nc_0 := congrArg (fun W => World.cell? W ⟨p, 0, none⟩) hW.symm; have Nc_0f := congrArg (fun W => World.frozen? W ⟨p, 0, none⟩) hW.symm; have Nhy_c : p < v2.heap.size := (by omega); have Nc_1 := congrArg (fun W => World.cell? W ⟨p, 1, none⟩) hW.symm; have Nc_1f := congrArg (fun W => World.frozen? W ⟨p, 1, none⟩) hW.symm; have Nc_2 := congrArg (fun W => World.cell? W ⟨p, 2, none⟩) hW.symm; have Nc_2f := congrArg (fun W => World.frozen? W ⟨p, 2, none⟩) hW.symm; have Nt_0 := congrArg (fun W => World.cell? W ⟨b, off + k, none⟩) hW.symm; have Nhy_t : b < v2.heap.size := (by omega); simp [go_sem, c_0, c_0f, c_1, c_1f, c_2, c_2f, t_0, hy_c, hy_t] at Nc_0 Nc_0f Nc_1 Nc_1f Nc_2 Nc_2f Nt_0; clear c_0 c_0f c_1 c_1f c_2 c_2f t_0 hy_c hy_t; have c_0 := Nc_0; have c_0f := Nc_0f; have c_1 := Nc_1; have c_1f := Nc_1f; have c_2 := Nc_2; have c_2f := Nc_2f; have t_0 := Nt_0; have hy_c := Nhy_c; have hy_t := Nhy_t; clear Nc_0 Nc_0f Nc_1 Nc_1f Nc_2 Nc_2f Nt_0 Nhy_c Nhy_t)
    have K4 : Hid (Keep (· = p) w v2) := Lib.hid (by rw [← hW]; exact K3.out.one _)
    clear hW
    have ek : (k : Int) + 1 - 1 = k := by omega
    (have qc_0 := Wd.cell hy_c c_0; have qc_1 := Wd.cell hy_c c_1; have qc_2 := Wd.cell hy_c c_2; have qt_0 := Wd.cell hy_t t_0; (refine wp_region_wd (by kernel_rfl) (by kernel_rfl) ?_); (repeat (go_big_quiet_step ((first | fail)))); (refine wpQuiet_nil ?_); rintro wn ⟨⟨w'', hbn⟩, hw''⟩; obtain rfl : wn = w'' := hw''; clear qc_0 qc_1 qc_2 qt_0; (obtain ⟨hcn, hfn⟩ := bcell hbn; have hzn := hbn.size; (try simp at hzn); have Nc_0 := hcn (p) (0) (by first | omega | (simp; done) | (simp; omega)); have Nc_0f := hfn (p) (0) (by first | omega | (simp; done) | (simp; omega)); have Nhy_c : p < wn.heap.size := (by omega); have Nc_1 := hcn (p) (1) (by first | omega | (simp; done) | (simp; omega)); have Nc_1f := hfn (p) (1) (by first | omega | (simp; done) | (simp; omega)); have Nc_2 := hcn (p) (2) (by first | omega | (simp; done) | (simp; omega)); have Nc_2f := hfn (p) (2) (by first | omega | (simp; done) | (simp; omega)); have Nt_0 := hcn (b) (off + k) (by first | omega | (simp; done) | (simp; omega)); have Nhy_t : b < wn.heap.size := (by omega); (first | (simp [go_sem, c_0, c_0f, c_1, c_1f, c_2, c_2f, t_0, hy_c, hy_t] at Nc_0 Nc_0f Nc_1 Nc_1f Nc_2 Nc_2f Nt_0; clear c_0 c_0f c_1 c_1f c_2 c_2f t_0) | (simp [go_sem] at Nc_0 Nc_0f Nc_1 Nc_1f Nc_2 Nc_2f Nt_0)); clear hcn hfn; have c_0 := Nc_0; have c_0f := Nc_0f; have c_1 := Nc_1; have c_1f := Nc_1f; have c_2 := Nc_2; have c_2f := Nc_2f; have t_0 := Nt_0; have hy_c := Nhy_c; have hy_t := Nhy_t; clear Nc_0 Nc_0f Nc_1 Nc_1f Nc_2 Nc_2f Nt_0 Nhy_c Nhy_t))
    have KZ := Lib.hid (K4.out.trans (Keep.of_below _ hbn))
    go_wp2
    go_ret
    refine ⟨_, rfl, Int.emod_nonneg _ (by omega), fun h => by omega, fun _ => Int.emod_lt_of_pos _ (by omega), HP.out.next KZ.out (bx3 (by omega) c_0 c_0f c_1 c_1f c_2 c_2f) (by omega) (by omega) (by omega) (by omega), KZ.out⟩
  · have ga : ¬ (k : Int) < l.length := by omega
    go_enter Tryz.func23, Tryz.ntmps23
    go_wp2_with fail
    
    (generalize hW : World.setCell w _ _ = v1; have hzn := congrArg (fun W => W.heap.size) hW; simp at hzn; have Nc_0 := congrArg (fun W => World.cell? W ⟨p, 0, none⟩) hW.symm; have Nc_0f := congrArg (fun W => World.frozen? W ⟨p, 0, none⟩) hW.symm; have Nhy_c : p < v1.heap.size := (by omega); have Nc_1 := congrArg (fun W => World.cell? W ⟨p, 1, none⟩) hW.symm; have Nc_1f := congrArg (fun W => World.frozen? W ⟨p, 1, none⟩) hW.symm; have Nc_2 := congrArg (fun W => World.cell? W ⟨p, 2, none⟩) hW.symm; have Nc_2f := congrArg (fun W => World.frozen? W ⟨p, 2, none⟩) hW.symm; simp [go_sem, c_0, c_0f, c_1, c_1f, c_2, c_2f, hy_c] at Nc_0 Nc_0f Nc_1 Nc_1f Nc_2 Nc_2f; clear c_0 c_0f c_1 c_1f c_2 c_2f hy_c; have c_0 := Nc_0; have c_0f := Nc_0f; have c_1 := Nc_1; have c_1f := Nc_1f; have c_2 := Nc_2; have c_2f := Nc_2f; have hy_c := Nhy_c; clear Nc_0 Nc_0f Nc_1 Nc_1f Nc_2 Nc_2f Nhy_c)
    have K1 : Hid (Keep (· = p) w v1) := Lib.hid (by rw [← hW]; exact (Keep.refl _ _).one _)
    clear hW
    (have qc_0 := Wd.cell hy_c c_0; have qc_1 := Wd.cell hy_c c_1; have qc_2 := Wd.cell hy_c c_2; (refine wp_region_wd (by kernel_rfl) (by kernel_rfl) ?_); (repeat (go_big_quiet_step ((first | fail)))); (refine wpQuiet_nil ?_); rintro wn ⟨⟨w'', hbn⟩, hw''⟩; obtain rfl : wn = w'' := hw''; clear qc_0 qc_1 qc_2; (obtain ⟨hcn, hfn⟩ := bcell hbn; have hzn := hbn.size; (try simp at hzn); have Nc_0 := hcn (p) (0) (by first | omega | (simp; done) | (simp; omega)); have Nc_0f := hfn (p) (0) (by first | omega | (simp; done) | (simp; omega)); have Nhy_c : p < wn.heap.size := (by omega); have Nc_1 := hcn (p) (1) (by first | omega | (simp; done) | (simp; omega)); have Nc_1f := hfn (p) (1) (by first | omega | (simp; done) | (simp; omega)); have Nc_2 := hcn (p) (2) (by first | omega | (simp; done) | (simp; omega)); have Nc_2f := hfn (p) (2) (by first | omega | (simp; done) | (simp; omega)); (first | (simp [go_sem, c_0, c_0f, c_1, c_1f, c_2, c_2f, hy_c] at Nc_0 Nc_0f Nc_1 Nc_1f Nc_2 Nc_2f; clear c_0 c_0f c_1 c_1f c_2 c_2f) | (simp [go_sem] at Nc_0 Nc_0f Nc_1 Nc_1f Nc_2 Nc_2f)); clear hcn hfn; have c_0 := Nc_0; have c_0f := Nc_0f; have c_1 := Nc_1; have c_1f := Nc_1f; have c_2 := Nc_2; have c_2f := Nc_2f; have hy_c := Nhy_c; clear Nc_0 Nc_0f Nc_1 Nc_1f Nc_2 Nc_2f Nhy_c))
    have K2 := Lib.hid (K1.out.trans (Keep.of_below _ hbn))
    go_wp2
    go_ret
    have KZ := K2
    refine ⟨_, rfl, ?_, fun h => by omega, fun _ => ?_, HP.out.next KZ.out (bx3 (by omega) c_0 c_0f c_1 c_1f c_2 c_2f) (by omega) (by omega) (by omega) (by omega), KZ.out⟩
    · exact Int.emod_nonneg _ (by omega)
    · exact Int.emod_lt_of_pos _ (by omega)
set_option maxRecDepth 100000 in
set_option maxHeartbeats 4000000 in
theorem spec_l01From (A : Option Addr) (c : Nat) (l : List Int) (w : World) (h : BytesIn w A l) (hl : l.length ≤ 4096) :
    Calls Tryz.prog 22 #[.slice A l.length c] w fun e w' => e = .returned (.pointer (some ⟨w.heap.size, 0, none⟩)) ∧ Src w' w.heap.size ∧ Below w.heap.size w w' := by
  have HI := Lib.hid h
  have HNE := Lib.hid (show ∀ b off, A = some ⟨b, off, none⟩ → l ≠ [] → b < w.heap.size from fun b off e hne => by
    obtain ⟨b', off', e', hb, _⟩ := h.rd (by simpa using hne)
    rw [e] at e'; injection e' with e'; injection e' with e1; omega)
  clear h
  go_enter Tryz.func22, Tryz.ntmps22
  go_wp2
  go_loopw [4] (fun v wr => ∃ (k : Nat) (s : Int), k ≤ l.length ∧ v = .int .i64 k ∧ SrcP wr w.heap.size A c l 0 s ∧ Below w.heap.size w wr) (fun v _ => l.length - (intOf v).toNat)
  case atStart =>
    refine ⟨0, 50311, by omega, rfl, ⟨bx3 (by simp) (by simp) (by simp) (by simp) (by simp) (by simp) (by simp), by omega, by omega, by omega, by omega, HI.out.rd.below (by (repeat' (first | (with_reducible exact Below.refl _ _) | (with_reducible assumption) | (with_reducible refine Below.alloc ?_ ?_ _) | (with_reducible refine Below.drew ?_) | (with_reducible refine Below.drewN' ?_ _) | (with_reducible refine Below.setCell ?_ ?_ _) | (refine Below.via ?_ (by with_reducible assumption) ?_) | (with_reducible refine Below.via ?_ (Wd.h _) ?_) | go_size))), HI.out.ok, hl, fun b off e hne => ?_⟩, by (repeat' (first | (with_reducible exact Below.refl _ _) | (with_reducible assumption) | (with_reducible refine Below.alloc ?_ ?_ _) | (with_reducible refine Below.drew ?_) | (with_reducible refine Below.drewN' ?_ _) | (with_reducible refine Below.setCell ?_ ?_ _) | (refine Below.via ?_ (by with_reducible assumption) ?_) | (with_reducible refine Below.via ?_ (Wd.h _) ?_) | go_size))⟩
    have := HNE.out b off e hne; omega
  case round =>
    obtain ⟨k, s, hk, rfl, hP, hbw⟩ := hrel
    have HP := Lib.hid hP
    have hy_c := hP.bx.lt
    have c_0 := hP.bx.cell 0 rfl
    have c_1 := hP.bx.cell 1 rfl
    have c_2 := hP.bx.cell 2 rfl
    have c_0f := hP.bx.frozen 0 rfl
    have c_1f := hP.bx.frozen 1 rfl
    have c_2f := hP.bx.frozen 2 rfl
    have s0 := hP.s0
    have s1 := hP.s1
    have hbH := Lib.hid hbw
    clear hP hbw
    by_cases hlt : k < l.length
    · by_cases h64 : k < 64
      · obtain ⟨x, hx⟩ := get_some hlt
        obtain ⟨b, off, rfl, hb, hat⟩ := HP.out.rd.opened (k := k) (by simpa using hlt)
        have t_0 := bytes_at hat hx
        obtain ⟨x0, x1⟩ := HP.out.by_ x (List.mem_of_getElem? hx)
        have hbp : b ≠ w.heap.size := by have := HP.out.ne b off rfl (by rintro rfl; simp at hlt); omega
        have hy_t := hb
        have g1 : (k : Int) < l.length := by omega
        have g2 : (k : Int) < 64 := by omega
        clear hx hat
        go_wp2_with fail
        
        (have qc_0 := Wd.cell hy_c c_0; have qc_1 := Wd.cell hy_c c_1; have qc_2 := Wd.cell hy_c c_2; have qt_0 := Wd.cell hy_t t_0; (refine wp_region_wd_tail 15 (by kernel_rfl) (by kernel_rfl) ?_; simp only [List.take_succ_cons, List.take_zero, List.drop_succ_cons, List.drop_zero]); (repeat (go_big_quiet_step ((first | fail)))); (refine wpQuiet_nil ?_); rintro wn ⟨⟨w'', hbn⟩, hw''⟩; obtain rfl : wn = w'' := hw''; clear qc_0 qc_1 qc_2 qt_0; (obtain ⟨hcn, hfn⟩ := bcell hbn; have hzn := hbn.size; (try simp at hzn); have Nc_0 := hcn (w.heap.size) (0) (by first | omega | (simp; done) | (simp; omega)); have Nc_0f := hfn (w.heap.size) (0) (by first | omega | (simp; done) | (simp; omega)); have Nhy_c : w.heap.size < wn.heap.size := (by omega); have Nc_1 := hcn (w.heap.size) (1) (by first | omega | (simp; done) | (simp; omega)); have Nc_1f := hfn (w.heap.size) (1) (by first | omega | (simp; done) | (simp; omega)); have Nc_2 := hcn (w.heap.size) (2) (by first | omega | (simp; done) | (simp; omega)); have Nc_2f := hfn (w.heap.size) (2) (by first | omega | (simp; done) | (simp; omega)); have Nt_0 := hcn (b) (off + k) (by first | omega | (simp; done) | (simp; omega)); have Nhy_t : b < wn.heap.size := (by omega); (first | (simp [go_sem, c_0, c_0f, c_1, c_1f, c_2, c_2f, t_0, hy_c, hy_t] at Nc_0 Nc_0f Nc_1 Nc_1f Nc_2 Nc_2f Nt_0; clear c_0 c_0f c_1 c_1f c_2 c_2f t_0) | (simp [go_sem] at Nc_0 Nc_0f Nc_1 Nc_1f Nc_2 Nc_2f Nt_0)); clear hcn hfn; have c_0 := Nc_0; have c_0f := Nc_0f; have c_1 := Nc_1; have c_1f := Nc_1f; have c_2 := Nc_2; have c_2f := Nc_2f; have t_0 := Nt_0; have hy_c := Nhy_c; have hy_t := Nhy_t; clear Nc_0 Nc_0f Nc_1 Nc_1f Nc_2 Nc_2f Nt_0 Nhy_c Nhy_t))
        have HQ := Lib.hid (HP.out.below hbn)
        go_wp2
        
        go_roundw
        case rel =>
          refine ⟨k + 1, (s * 41 + x) % 2147483647, by omega, by go_num, ⟨bx3 (by simp; omega) (by simp [go_sem, c_0]) (by simp [go_sem, c_0f]) (by simp [go_sem, c_1]) (by simp [go_sem, c_1f]) (by simp [go_sem, c_2]) (by simp [go_sem, c_2f]), by omega, by omega, by omega, by omega, HQ.out.rd.keep ((Keep.refl (· = w.heap.size) _).one _) (fun b' off' e hp => by have := HQ.out.ne b' off' e (by rintro rfl; simp at hlt); (try simp only at hp); omega), HQ.out.by_, HQ.out.ln, HQ.out.ne⟩, ?_⟩
          have h1 := hbH.out
          (repeat' (first | (with_reducible exact Below.refl _ _) | (with_reducible assumption) | (with_reducible refine Below.alloc ?_ ?_ _) | (with_reducible refine Below.drew ?_) | (with_reducible refine Below.drewN' ?_ _) | (with_reducible refine Below.setCell ?_ ?_ _) | (refine Below.via ?_ (by with_reducible assumption) ?_) | (with_reducible refine Below.via ?_ (Wd.h _) ?_) | go_size))
        case measure => simp [intOf]; omega
      · have g1 : (k : Int) < l.length := by omega
        have g2 : ¬ (k : Int) < 64 := by omega
        go_wp2
        go_ret
        exact ⟨rfl, ⟨_, _, _, _, _, HP.out⟩, hbH.out⟩
    · have g1 : ¬ (k : Int) < l.length := by omega
      go_wp2
      go_ret
      exact ⟨rfl, ⟨_, _, _, _, _, HP.out⟩, hbH.out⟩
end Go.Proofs.YtbdacplndmnkhaaGreatDoor
