/- ClosestSupplies for the law: what it returns does not depend on where the hour lies. -/
import Derived.Test.YtiedojolhfglnaaCs
namespace Go.Proofs.Ytiedojolhfglnaa
set_option linter.unusedVariables false
set_option linter.unusedSimpArgs false
open Go.RowKit
noncomputable def csQ (N : Net) (ll lh ln la lb : List Int) : List Int × Int := csR N ll lh ln ⟨none, none, 0, 0, la, lb⟩
theorem csQ_len {N : Net} {ll lh ln la lb : List Int} : (csQ N ll lh ln la lb).1.length ≤ 1048576 := csR_len
theorem impl_ClosestSuppliesL (A B Al Ah An Fa Fb : Option Addr) (n c m d nl nh nn cl ch cn ca cb : Nat) (N : Net) (ll lh ln la lb : List Int) (w : World) (hN : NetAt w A B N) (hn : n = N.nodes.length) (hm : m = N.pipes.length) (hc : n ≤ c) (h : BufAt w Al Ah An ll lh ln) (e1 : nl = ll.length) (e2 : nh = lh.length) (e3 : nn = ln.length) (hat : HouAt w Fa Fb la lb) :
    Calls Try.prog 56 #[netV A B n c m d, bufV Al Ah An nl nh nn cl ch cn, .agg #[.slice Fa la.length ca, .slice Fb lb.length cb]] w (MadeR w 1 (csQ N ll lh ln la lb).1.length ((csQ N ll lh ln la lb).1.map iV) (csQ N ll lh ln la lb).2) :=
  impl_ClosestSupplies A B Al Ah An n c m d nl nh nn cl ch cn N ll lh ln ⟨Fa, Fb, ca, cb, la, lb⟩ w hN hn hm hc h e1 e2 e3 hat.hr
theorem spec_ClosestSuppliesL (A B Al Ah An Fa Fb : Option Addr) (n c m d nl nh nn cl ch cn ca cb : Nat) (N : Net) (ll lh ln la lb : List Int) (w : World) (hN : NetAt w A B N) (hn : n = N.nodes.length) (hm : m = N.pipes.length) (h : BufAt w Al Ah An ll lh ln) (e1 : nl = ll.length) (e2 : nh = lh.length) (e3 : nn = ln.length) (hat : HouAt w Fa Fb la lb) :
    Calls Try.prog 55 #[netV A B n c m d, bufV Al Ah An nl nh nn cl ch cn, .agg #[.slice Fa la.length ca, .slice Fb lb.length cb]] w (MadeR w 1 (csQ N ll lh ln la lb).1.length ((csQ N ll lh ln la lb).1.map iV) (csQ N ll lh ln la lb).2) :=
  spec_ClosestSupplies A B Al Ah An n c m d nl nh nn cl ch cn N ll lh ln ⟨Fa, Fb, ca, cb, la, lb⟩ w hN hn hm h e1 e2 e3 hat.hr
end Go.Proofs.Ytiedojolhfglnaa
