/- FirstTrouble for the law: what it returns does not depend on where the hour lies. -/
import Derived.Test.YtiedojolhfglnaaFt
import Derived.Test.YtiedojolhfglnaaHo
namespace Go.Proofs.Ytiedojolhfglnaa
set_option linter.unusedVariables false
set_option linter.unusedSimpArgs false
open Go.RowKit
noncomputable def ftQ (N : Net) (ll lh ln la lb : List Int) : Int × Int := ftR N ll lh ln ⟨none, none, 0, 0, la, lb⟩
theorem impl_FirstTroubleL (A B Al Ah An Fa Fb : Option Addr) (n c m d nl nh nn cl ch cn ca cb : Nat) (N : Net) (ll lh ln la lb : List Int) (w : World) (hN : NetAt w A B N) (hn : n = N.nodes.length) (hm : m = N.pipes.length) (hc : n ≤ c) (h : BufAt w Al Ah An ll lh ln) (e1 : nl = ll.length) (e2 : nh = lh.length) (e3 : nn = ln.length) (hat : HouAt w Fa Fb la lb) :
    Calls Try.prog 41 #[netV A B n c m d, bufV Al Ah An nl nh nn cl ch cn, .agg #[.slice Fa la.length ca, .slice Fb lb.length cb]] w fun e w' => e = .returned (.tuple #[.int .i64 (ftQ N ll lh ln la lb).1, .int .i64 (ftQ N ll lh ln la lb).2]) ∧ Below w.heap.size w w' :=
  impl_FirstTrouble A B Al Ah An n c m d nl nh nn cl ch cn N ll lh ln ⟨Fa, Fb, ca, cb, la, lb⟩ w hN hn hm hc h e1 e2 e3 hat.hr
theorem spec_FirstTroubleL (A B Al Ah An Fa Fb : Option Addr) (n c m d nl nh nn cl ch cn ca cb : Nat) (N : Net) (ll lh ln la lb : List Int) (w : World) (hN : NetAt w A B N) (hn : n = N.nodes.length) (hm : m = N.pipes.length) (h : BufAt w Al Ah An ll lh ln) (e1 : nl = ll.length) (e2 : nh = lh.length) (e3 : nn = ln.length) (hat : HouAt w Fa Fb la lb) :
    Calls Try.prog 38 #[netV A B n c m d, bufV Al Ah An nl nh nn cl ch cn, .agg #[.slice Fa la.length ca, .slice Fb lb.length cb]] w fun e w' => e = .returned (.tuple #[.int .i64 (ftQ N ll lh ln la lb).1, .int .i64 (ftQ N ll lh ln la lb).2]) ∧ Below w.heap.size w w' :=
  spec_FirstTrouble A B Al Ah An n c m d nl nh nn cl ch cn N ll lh ln ⟨Fa, Fb, ca, cb, la, lb⟩ w hN hn hm h e1 e2 e3 hat.hr
end Go.Proofs.Ytiedojolhfglnaa
