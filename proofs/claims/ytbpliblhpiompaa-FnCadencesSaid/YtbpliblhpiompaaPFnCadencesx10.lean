-- written by xprint.py, a program of this repo over the kit's print; not trusted: Lean checks it
import Derived.Test.YtbpliblhpiompaaPFnCadencesx0
import Derived.Test.YtbpliblhpiompaaPFnCadencesx1
import Derived.Test.YtbpliblhpiompaaPFnCadencesx5
import Derived.Test.YtbpliblhpiompaaPFnCadencesx6
import Derived.Test.YtbpliblhpiompaaPFnCadencesx7
import Derived.Test.YtbpliblhpiompaaPFnCadencesx8
import Derived.Test.YtbpliblhpiompaaPFnCadencesx9
namespace Go.Proofs.Ytbpliblhpiompaa.PFnCadences
open Go.RowKit Go.Proofs.YtbpliblhpiompaaW.PrintWords Go.Proofs.YtbpliblhpiompaaW.PrintLast Go.Proofs.YtbpliblhpiompaaW.PrintMore
attribute [local go_sem] max2_int min2_int max_two min_two max_three min_three max_four min_four   -- for this text's walks alone
set_option linter.unusedVariables false
set_option linter.unusedSimpArgs false

open List renaming setIfInBounds_toArray → s0_, set_cons_zero → s1_, set_cons_succ → s2_
abbrev bz10_0 : Array Bool := #[false,false,false,false,false,false,false,false,false,false,false,false,false,false,false,false,false,false,false,false,false,false,false,false,false,false,false,false,false,false,false,false,false,false,false,false,false,false,false,false,false,false,false,false,false,false,false,false,false,false,false,false,false,false,false,false,false,false,false,false,false,false,false,false,false,false,false,false,false,false,false,false,false,false,false,false,false,false,false,false,false,false,false,false,false,false,false,false,false,false,false,false,false,false,false,false,false,false,false,false,false]
abbrev bz10_1 : Array Bool := #[true,false,false,false,false,false,false,false,false,false,false,false,false,false,false,false,false,false,false,false,false,false,false,false,false,false,false,false,false,false,false,false,false,false,false,false,false,false,false,false,false,false,false,false,false,false,false,false,false,false,false,false,false,false,false,false,false,false,false,false,false,false,false,false,false,false,false,false,false,false,false,false,false,false,false,false,false,false,false,false,false,false,false,false,false,false,false,false,false,false,false,false,false,false,false,false,false,false,false,false,false]
abbrev bz10_2 : Array Bool := #[true,true,false,false,false,false,false,false,false,false,false,false,false,false,false,false,false,false,false,false,false,false,false,false,false,false,false,false,false,false,false,false,false,false,false,false,false,false,false,false,false,false,false,false,false,false,false,false,false,false,false,false,false,false,false,false,false,false,false,false,false,false,false,false,false,false,false,false,false,false,false,false,false,false,false,false,false,false,false,false,false,false,false,false,false,false,false,false,false,false,false,false,false,false,false,false,false,false,false,false,false]
abbrev bz10_3 : Array Bool := #[true,true,true,false,false,false,false,false,false,false,false,false,false,false,false,false,false,false,false,false,false,false,false,false,false,false,false,false,false,false,false,false,false,false,false,false,false,false,false,false,false,false,false,false,false,false,false,false,false,false,false,false,false,false,false,false,false,false,false,false,false,false,false,false,false,false,false,false,false,false,false,false,false,false,false,false,false,false,false,false,false,false,false,false,false,false,false,false,false,false,false,false,false,false,false,false,false,false,false,false,false]
abbrev bz10_4 : Array Bool := #[true,true,true,true,false,false,false,false,false,false,false,false,false,false,false,false,false,false,false,false,false,false,false,false,false,false,false,false,false,false,false,false,false,false,false,false,false,false,false,false,false,false,false,false,false,false,false,false,false,false,false,false,false,false,false,false,false,false,false,false,false,false,false,false,false,false,false,false,false,false,false,false,false,false,false,false,false,false,false,false,false,false,false,false,false,false,false,false,false,false,false,false,false,false,false,false,false,false,false,false,false]
abbrev bz10_5 : Array Bool := #[true,true,true,true,true,false,false,false,false,false,false,false,false,false,false,false,false,false,false,false,false,false,false,false,false,false,false,false,false,false,false,false,false,false,false,false,false,false,false,false,false,false,false,false,false,false,false,false,false,false,false,false,false,false,false,false,false,false,false,false,false,false,false,false,false,false,false,false,false,false,false,false,false,false,false,false,false,false,false,false,false,false,false,false,false,false,false,false,false,false,false,false,false,false,false,false,false,false,false,false,false]
abbrev bz10_6 : Array Bool := #[true,true,true,true,true,true,false,false,false,false,false,false,false,false,false,false,false,false,false,false,false,false,false,false,false,false,false,false,false,false,false,false,false,false,false,false,false,false,false,false,false,false,false,false,false,false,false,false,false,false,false,false,false,false,false,false,false,false,false,false,false,false,false,false,false,false,false,false,false,false,false,false,false,false,false,false,false,false,false,false,false,false,false,false,false,false,false,false,false,false,false,false,false,false,false,false,false,false,false,false,false]
abbrev bz10_7 : Array Bool := #[true,true,true,true,true,true,true,false,false,false,false,false,false,false,false,false,false,false,false,false,false,false,false,false,false,false,false,false,false,false,false,false,false,false,false,false,false,false,false,false,false,false,false,false,false,false,false,false,false,false,false,false,false,false,false,false,false,false,false,false,false,false,false,false,false,false,false,false,false,false,false,false,false,false,false,false,false,false,false,false,false,false,false,false,false,false,false,false,false,false,false,false,false,false,false,false,false,false,false,false,false]
abbrev bz10_8 : Array Bool := #[true,true,true,true,true,true,true,true,false,false,false,false,false,false,false,false,false,false,false,false,false,false,false,false,false,false,false,false,false,false,false,false,false,false,false,false,false,false,false,false,false,false,false,false,false,false,false,false,false,false,false,false,false,false,false,false,false,false,false,false,false,false,false,false,false,false,false,false,false,false,false,false,false,false,false,false,false,false,false,false,false,false,false,false,false,false,false,false,false,false,false,false,false,false,false,false,false,false,false,false,false]
abbrev bz10_9 : Array Bool := #[true,true,true,true,true,true,true,true,false,true,false,false,false,false,false,false,false,false,false,false,false,false,false,false,false,false,false,false,false,false,false,false,false,false,false,false,false,false,false,false,false,false,false,false,false,false,false,false,false,false,false,false,false,false,false,false,false,false,false,false,false,false,false,false,false,false,false,false,false,false,false,false,false,false,false,false,false,false,false,false,false,false,false,false,false,false,false,false,false,false,false,false,false,false,false,false,false,false,false,false,false]
abbrev bz10_10 : Array Bool := #[true,true,true,true,true,true,true,true,false,true,true,false,false,false,false,false,false,false,false,false,false,false,false,false,false,false,false,false,false,false,false,false,false,false,false,false,false,false,false,false,false,false,false,false,false,false,false,false,false,false,false,false,false,false,false,false,false,false,false,false,false,false,false,false,false,false,false,false,false,false,false,false,false,false,false,false,false,false,false,false,false,false,false,false,false,false,false,false,false,false,false,false,false,false,false,false,false,false,false,false,false]
abbrev bz10_11 : Array Bool := #[true,true,true,true,true,true,true,true,false,true,true,true,false,false,false,false,false,false,false,false,false,false,false,false,false,false,false,false,false,false,false,false,false,false,false,false,false,false,false,false,false,false,false,false,false,false,false,false,false,false,false,false,false,false,false,false,false,false,false,false,false,false,false,false,false,false,false,false,false,false,false,false,false,false,false,false,false,false,false,false,false,false,false,false,false,false,false,false,false,false,false,false,false,false,false,false,false,false,false,false,false]
abbrev bz10_12 : Array Bool := #[true,true,true,true,true,true,true,true,false,true,true,true,true,false,false,false,false,false,false,false,false,false,false,false,false,false,false,false,false,false,false,false,false,false,false,false,false,false,false,false,false,false,false,false,false,false,false,false,false,false,false,false,false,false,false,false,false,false,false,false,false,false,false,false,false,false,false,false,false,false,false,false,false,false,false,false,false,false,false,false,false,false,false,false,false,false,false,false,false,false,false,false,false,false,false,false,false,false,false,false,false]
abbrev bz10_13 : Array Bool := #[true,true,true,true,true,true,true,true,true,true,true,true,true,false,false,false,false,false,false,false,false,false,false,false,false,false,false,false,false,false,false,false,false,false,false,false,false,false,false,false,false,false,false,false,false,false,false,false,false,false,false,false,false,false,false,false,false,false,false,false,false,false,false,false,false,false,false,false,false,false,false,false,false,false,false,false,false,false,false,false,false,false,false,false,false,false,false,false,false,false,false,false,false,false,false,false,false,false,false,false,false]
abbrev bz10_14 : Array Bool := #[true,true,true,true,true,true,true,true,true,true,true,true,true,true,false,false,false,false,false,false,false,false,false,false,false,false,false,false,false,false,false,false,false,false,false,false,false,false,false,false,false,false,false,false,false,false,false,false,false,false,false,false,false,false,false,false,false,false,false,false,false,false,false,false,false,false,false,false,false,false,false,false,false,false,false,false,false,false,false,false,false,false,false,false,false,false,false,false,false,false,false,false,false,false,false,false,false,false,false,false,false]
abbrev bz10_15 : Array Bool := #[true,true,true,true,true,true,true,true,true,true,true,true,true,true,true,false,false,false,false,false,false,false,false,false,false,false,false,false,false,false,false,false,false,false,false,false,false,false,false,false,false,false,false,false,false,false,false,false,false,false,false,false,false,false,false,false,false,false,false,false,false,false,false,false,false,false,false,false,false,false,false,false,false,false,false,false,false,false,false,false,false,false,false,false,false,false,false,false,false,false,false,false,false,false,false,false,false,false,false,false,false]
abbrev bz10_16 : Array Bool := #[true,true,true,true,true,true,true,true,true,true,true,true,true,true,true,true,false,false,false,false,false,false,false,false,false,false,false,false,false,false,false,false,false,false,false,false,false,false,false,false,false,false,false,false,false,false,false,false,false,false,false,false,false,false,false,false,false,false,false,false,false,false,false,false,false,false,false,false,false,false,false,false,false,false,false,false,false,false,false,false,false,false,false,false,false,false,false,false,false,false,false,false,false,false,false,false,false,false,false,false,false]
abbrev bz10_17 : Array Bool := #[true,true,true,true,true,true,true,true,true,true,true,true,true,true,true,true,true,false,false,false,false,false,false,false,false,false,false,false,false,false,false,false,false,false,false,false,false,false,false,false,false,false,false,false,false,false,false,false,false,false,false,false,false,false,false,false,false,false,false,false,false,false,false,false,false,false,false,false,false,false,false,false,false,false,false,false,false,false,false,false,false,false,false,false,false,false,false,false,false,false,false,false,false,false,false,false,false,false,false,false,false]
abbrev bz10_18 : Array Bool := #[true,true,true,true,true,true,true,true,true,true,true,true,true,true,true,true,true,true,false,false,false,false,false,false,false,false,false,false,false,false,false,false,false,false,false,false,false,false,false,false,false,false,false,false,false,false,false,false,false,false,false,false,false,false,false,false,false,false,false,false,false,false,false,false,false,false,false,false,false,false,false,false,false,false,false,false,false,false,false,false,false,false,false,false,false,false,false,false,false,false,false,false,false,false,false,false,false,false,false,false,false]
abbrev bz10_19 : Array Bool := #[true,true,true,true,true,true,true,true,true,true,true,true,true,true,true,true,true,true,true,false,false,false,false,false,false,false,false,false,false,false,false,false,false,false,false,false,false,false,false,false,false,false,false,false,false,false,false,false,false,false,false,false,false,false,false,false,false,false,false,false,false,false,false,false,false,false,false,false,false,false,false,false,false,false,false,false,false,false,false,false,false,false,false,false,false,false,false,false,false,false,false,false,false,false,false,false,false,false,false,false,false]
abbrev bz10_20 : Array Bool := #[true,true,true,true,true,true,true,true,true,true,true,true,true,true,true,true,true,true,true,true,false,false,false,false,false,false,false,false,false,false,false,false,false,false,false,false,false,false,false,false,false,false,false,false,false,false,false,false,false,false,false,false,false,false,false,false,false,false,false,false,false,false,false,false,false,false,false,false,false,false,false,false,false,false,false,false,false,false,false,false,false,false,false,false,false,false,false,false,false,false,false,false,false,false,false,false,false,false,false,false,false]
abbrev bz10_21 : Array Bool := #[true,true,true,true,true,true,true,true,true,true,true,true,true,true,true,true,true,true,true,true,true,false,false,false,false,false,false,false,false,false,false,false,false,false,false,false,false,false,false,false,false,false,false,false,false,false,false,false,false,false,false,false,false,false,false,false,false,false,false,false,false,false,false,false,false,false,false,false,false,false,false,false,false,false,false,false,false,false,false,false,false,false,false,false,false,false,false,false,false,false,false,false,false,false,false,false,false,false,false,false,false]
abbrev bz10_22 : Array Bool := #[true,true,true,true,true,true,true,true,true,true,true,true,true,true,true,true,true,true,true,true,true,true,false,false,false,false,false,false,false,false,false,false,false,false,false,false,false,false,false,false,false,false,false,false,false,false,false,false,false,false,false,false,false,false,false,false,false,false,false,false,false,false,false,false,false,false,false,false,false,false,false,false,false,false,false,false,false,false,false,false,false,false,false,false,false,false,false,false,false,false,false,false,false,false,false,false,false,false,false,false,false]
abbrev bz10_23 : Array Bool := #[true,true,true,true,true,true,true,true,true,true,true,true,true,true,true,true,true,true,true,true,true,true,true,false,false,false,false,false,false,false,false,false,false,false,false,false,false,false,false,false,false,false,false,false,false,false,false,false,false,false,false,false,false,false,false,false,false,false,false,false,false,false,false,false,false,false,false,false,false,false,false,false,false,false,false,false,false,false,false,false,false,false,false,false,false,false,false,false,false,false,false,false,false,false,false,false,false,false,false,false,false]
abbrev bz10_24 : Array Bool := #[true,true,true,true,true,true,true,true,true,true,true,true,true,true,true,true,true,true,true,true,true,true,true,true,false,false,false,false,false,false,false,false,false,false,false,false,false,false,false,false,false,false,false,false,false,false,false,false,false,false,false,false,false,false,false,false,false,false,false,false,false,false,false,false,false,false,false,false,false,false,false,false,false,false,false,false,false,false,false,false,false,false,false,false,false,false,false,false,false,false,false,false,false,false,false,false,false,false,false,false,false]
abbrev bz10_25 : Array Bool := #[true,true,true,true,true,true,true,true,true,true,true,true,true,true,true,true,true,true,true,true,true,true,true,true,true,false,false,false,false,false,false,false,false,false,false,false,false,false,false,false,false,false,false,false,false,false,false,false,false,false,false,false,false,false,false,false,false,false,false,false,false,false,false,false,false,false,false,false,false,false,false,false,false,false,false,false,false,false,false,false,false,false,false,false,false,false,false,false,false,false,false,false,false,false,false,false,false,false,false,false,false]
abbrev bz10_26 : Array Bool := #[true,true,true,true,true,true,true,true,true,true,true,true,true,true,true,true,true,true,true,true,true,true,true,true,true,true,false,false,false,false,false,false,false,false,false,false,false,false,false,false,false,false,false,false,false,false,false,false,false,false,false,false,false,false,false,false,false,false,false,false,false,false,false,false,false,false,false,false,false,false,false,false,false,false,false,false,false,false,false,false,false,false,false,false,false,false,false,false,false,false,false,false,false,false,false,false,false,false,false,false,false]
abbrev bz10_27 : Array Bool := #[true,true,true,true,true,true,true,true,true,true,true,true,true,true,true,true,true,true,true,true,true,true,true,true,true,true,false,true,false,false,false,false,false,false,false,false,false,false,false,false,false,false,false,false,false,false,false,false,false,false,false,false,false,false,false,false,false,false,false,false,false,false,false,false,false,false,false,false,false,false,false,false,false,false,false,false,false,false,false,false,false,false,false,false,false,false,false,false,false,false,false,false,false,false,false,false,false,false,false,false,false]
abbrev bz10_28 : Array Bool := #[true,true,true,true,true,true,true,true,true,true,true,true,true,true,true,true,true,true,true,true,true,true,true,true,true,true,false,true,true,false,false,false,false,false,false,false,false,false,false,false,false,false,false,false,false,false,false,false,false,false,false,false,false,false,false,false,false,false,false,false,false,false,false,false,false,false,false,false,false,false,false,false,false,false,false,false,false,false,false,false,false,false,false,false,false,false,false,false,false,false,false,false,false,false,false,false,false,false,false,false,false]
abbrev bz10_29 : Array Bool := #[true,true,true,true,true,true,true,true,true,true,true,true,true,true,true,true,true,true,true,true,true,true,true,true,true,true,false,true,true,true,false,false,false,false,false,false,false,false,false,false,false,false,false,false,false,false,false,false,false,false,false,false,false,false,false,false,false,false,false,false,false,false,false,false,false,false,false,false,false,false,false,false,false,false,false,false,false,false,false,false,false,false,false,false,false,false,false,false,false,false,false,false,false,false,false,false,false,false,false,false,false]
abbrev bz10_30 : Array Bool := #[true,true,true,true,true,true,true,true,true,true,true,true,true,true,true,true,true,true,true,true,true,true,true,true,true,true,false,true,true,true,true,false,false,false,false,false,false,false,false,false,false,false,false,false,false,false,false,false,false,false,false,false,false,false,false,false,false,false,false,false,false,false,false,false,false,false,false,false,false,false,false,false,false,false,false,false,false,false,false,false,false,false,false,false,false,false,false,false,false,false,false,false,false,false,false,false,false,false,false,false,false]
abbrev bz10_31 : Array Bool := #[true,true,true,true,true,true,true,true,true,true,true,true,true,true,true,true,true,true,true,true,true,true,true,true,true,true,true,true,true,true,true,false,false,false,false,false,false,false,false,false,false,false,false,false,false,false,false,false,false,false,false,false,false,false,false,false,false,false,false,false,false,false,false,false,false,false,false,false,false,false,false,false,false,false,false,false,false,false,false,false,false,false,false,false,false,false,false,false,false,false,false,false,false,false,false,false,false,false,false,false,false]
abbrev bz10_32 : Array Bool := #[true,true,true,true,true,true,true,true,true,true,true,true,true,true,true,true,true,true,true,true,true,true,true,true,true,true,true,true,true,true,true,true,false,false,false,false,false,false,false,false,false,false,false,false,false,false,false,false,false,false,false,false,false,false,false,false,false,false,false,false,false,false,false,false,false,false,false,false,false,false,false,false,false,false,false,false,false,false,false,false,false,false,false,false,false,false,false,false,false,false,false,false,false,false,false,false,false,false,false,false,false]
abbrev bz10_33 : Array Bool := #[true,true,true,true,true,true,true,true,true,true,true,true,true,true,true,true,true,true,true,true,true,true,true,true,true,true,true,true,true,true,true,true,true,false,false,false,false,false,false,false,false,false,false,false,false,false,false,false,false,false,false,false,false,false,false,false,false,false,false,false,false,false,false,false,false,false,false,false,false,false,false,false,false,false,false,false,false,false,false,false,false,false,false,false,false,false,false,false,false,false,false,false,false,false,false,false,false,false,false,false,false]
abbrev bz10_34 : Array Bool := #[true,true,true,true,true,true,true,true,true,true,true,true,true,true,true,true,true,true,true,true,true,true,true,true,true,true,true,true,true,true,true,true,true,true,false,false,false,false,false,false,false,false,false,false,false,false,false,false,false,false,false,false,false,false,false,false,false,false,false,false,false,false,false,false,false,false,false,false,false,false,false,false,false,false,false,false,false,false,false,false,false,false,false,false,false,false,false,false,false,false,false,false,false,false,false,false,false,false,false,false,false]
abbrev bz10_35 : Array Bool := #[true,true,true,true,true,true,true,true,true,true,true,true,true,true,true,true,true,true,true,true,true,true,true,true,true,true,true,true,true,true,true,true,true,true,true,false,false,false,false,false,false,false,false,false,false,false,false,false,false,false,false,false,false,false,false,false,false,false,false,false,false,false,false,false,false,false,false,false,false,false,false,false,false,false,false,false,false,false,false,false,false,false,false,false,false,false,false,false,false,false,false,false,false,false,false,false,false,false,false,false,false]
abbrev bz10_36 : Array Bool := #[true,true,true,true,true,true,true,true,true,true,true,true,true,true,true,true,true,true,true,true,true,true,true,true,true,true,true,true,true,true,true,true,true,true,true,true,false,false,false,false,false,false,false,false,false,false,false,false,false,false,false,false,false,false,false,false,false,false,false,false,false,false,false,false,false,false,false,false,false,false,false,false,false,false,false,false,false,false,false,false,false,false,false,false,false,false,false,false,false,false,false,false,false,false,false,false,false,false,false,false,false]
abbrev bz10_37 : Array Bool := #[true,true,true,true,true,true,true,true,true,true,true,true,true,true,true,true,true,true,true,true,true,true,true,true,true,true,true,true,true,true,true,true,true,true,true,true,true,false,false,false,false,false,false,false,false,false,false,false,false,false,false,false,false,false,false,false,false,false,false,false,false,false,false,false,false,false,false,false,false,false,false,false,false,false,false,false,false,false,false,false,false,false,false,false,false,false,false,false,false,false,false,false,false,false,false,false,false,false,false,false,false]
abbrev bz10_38 : Array Bool := #[true,true,true,true,true,true,true,true,true,true,true,true,true,true,true,true,true,true,true,true,true,true,true,true,true,true,true,true,true,true,true,true,true,true,true,true,true,true,false,false,false,false,false,false,false,false,false,false,false,false,false,false,false,false,false,false,false,false,false,false,false,false,false,false,false,false,false,false,false,false,false,false,false,false,false,false,false,false,false,false,false,false,false,false,false,false,false,false,false,false,false,false,false,false,false,false,false,false,false,false,false]
abbrev bz10_39 : Array Bool := #[true,true,true,true,true,true,true,true,true,true,true,true,true,true,true,true,true,true,true,true,true,true,true,true,true,true,true,true,true,true,true,true,true,true,true,true,true,true,true,false,false,false,false,false,false,false,false,false,false,false,false,false,false,false,false,false,false,false,false,false,false,false,false,false,false,false,false,false,false,false,false,false,false,false,false,false,false,false,false,false,false,false,false,false,false,false,false,false,false,false,false,false,false,false,false,false,false,false,false,false,false]
abbrev bz10_40 : Array Bool := #[true,true,true,true,true,true,true,true,true,true,true,true,true,true,true,true,true,true,true,true,true,true,true,true,true,true,true,true,true,true,true,true,true,true,true,true,true,true,true,true,false,false,false,false,false,false,false,false,false,false,false,false,false,false,false,false,false,false,false,false,false,false,false,false,false,false,false,false,false,false,false,false,false,false,false,false,false,false,false,false,false,false,false,false,false,false,false,false,false,false,false,false,false,false,false,false,false,false,false,false,false]
abbrev bz10_41 : Array Bool := #[true,true,true,true,true,true,true,true,true,true,true,true,true,true,true,true,true,true,true,true,true,true,true,true,true,true,true,true,true,true,true,true,true,true,true,true,true,true,true,true,true,false,false,false,false,false,false,false,false,false,false,false,false,false,false,false,false,false,false,false,false,false,false,false,false,false,false,false,false,false,false,false,false,false,false,false,false,false,false,false,false,false,false,false,false,false,false,false,false,false,false,false,false,false,false,false,false,false,false,false,false]
abbrev bz10_42 : Array Bool := #[true,true,true,true,true,true,true,true,true,true,true,true,true,true,true,true,true,true,true,true,true,true,true,true,true,true,true,true,true,true,true,true,true,true,true,true,true,true,true,true,true,true,false,false,false,false,false,false,false,false,false,false,false,false,false,false,false,false,false,false,false,false,false,false,false,false,false,false,false,false,false,false,false,false,false,false,false,false,false,false,false,false,false,false,false,false,false,false,false,false,false,false,false,false,false,false,false,false,false,false,false]
abbrev bz10_43 : Array Bool := #[true,true,true,true,true,true,true,true,true,true,true,true,true,true,true,true,true,true,true,true,true,true,true,true,true,true,true,true,true,true,true,true,true,true,true,true,true,true,true,true,true,true,true,false,false,false,false,false,false,false,false,false,false,false,false,false,false,false,false,false,false,false,false,false,false,false,false,false,false,false,false,false,false,false,false,false,false,false,false,false,false,false,false,false,false,false,false,false,false,false,false,false,false,false,false,false,false,false,false,false,false]
abbrev bz10_44 : Array Bool := #[true,true,true,true,true,true,true,true,true,true,true,true,true,true,true,true,true,true,true,true,true,true,true,true,true,true,true,true,true,true,true,true,true,true,true,true,true,true,true,true,true,true,true,true,false,false,false,false,false,false,false,false,false,false,false,false,false,false,false,false,false,false,false,false,false,false,false,false,false,false,false,false,false,false,false,false,false,false,false,false,false,false,false,false,false,false,false,false,false,false,false,false,false,false,false,false,false,false,false,false,false]
abbrev bz10_45 : Array Bool := #[true,true,true,true,true,true,true,true,true,true,true,true,true,true,true,true,true,true,true,true,true,true,true,true,true,true,true,true,true,true,true,true,true,true,true,true,true,true,true,true,true,true,true,true,true,false,false,false,false,false,false,false,false,false,false,false,false,false,false,false,false,false,false,false,false,false,false,false,false,false,false,false,false,false,false,false,false,false,false,false,false,false,false,false,false,false,false,false,false,false,false,false,false,false,false,false,false,false,false,false,false]
abbrev bz10_46 : Array Bool := #[true,true,true,true,true,true,true,true,true,true,true,true,true,true,true,true,true,true,true,true,true,true,true,true,true,true,true,true,true,true,true,true,true,true,true,true,true,true,true,true,true,true,true,true,true,true,false,false,false,false,false,false,false,false,false,false,false,false,false,false,false,false,false,false,false,false,false,false,false,false,false,false,false,false,false,false,false,false,false,false,false,false,false,false,false,false,false,false,false,false,false,false,false,false,false,false,false,false,false,false,false]
abbrev bz10_47 : Array Bool := #[true,true,true,true,true,true,true,true,true,true,true,true,true,true,true,true,true,true,true,true,true,true,true,true,true,true,true,true,true,true,true,true,true,true,true,true,true,true,true,true,true,true,true,true,true,true,true,false,false,false,false,false,false,false,false,false,false,false,false,false,false,false,false,false,false,false,false,false,false,false,false,false,false,false,false,false,false,false,false,false,false,false,false,false,false,false,false,false,false,false,false,false,false,false,false,false,false,false,false,false,false]
abbrev bz10_48 : Array Bool := #[true,true,true,true,true,true,true,true,true,true,true,true,true,true,true,true,true,true,true,true,true,true,true,true,true,true,true,true,true,true,true,true,true,true,true,true,true,true,true,true,true,true,true,true,true,true,true,true,false,false,false,false,false,false,false,false,false,false,false,false,false,false,false,false,false,false,false,false,false,false,false,false,false,false,false,false,false,false,false,false,false,false,false,false,false,false,false,false,false,false,false,false,false,false,false,false,false,false,false,false,false]
abbrev bz10_49 : Array Bool := #[true,true,true,true,true,true,true,true,true,true,true,true,true,true,true,true,true,true,true,true,true,true,true,true,true,true,true,true,true,true,true,true,true,true,true,true,true,true,true,true,true,true,true,true,true,true,true,true,true,false,false,false,false,false,false,false,false,false,false,false,false,false,false,false,false,false,false,false,false,false,false,false,false,false,false,false,false,false,false,false,false,false,false,false,false,false,false,false,false,false,false,false,false,false,false,false,false,false,false,false,false]
abbrev bz10_50 : Array Bool := #[true,true,true,true,true,true,true,true,true,true,true,true,true,true,true,true,true,true,true,true,true,true,true,true,true,true,true,true,true,true,true,true,true,true,true,true,true,true,true,true,true,true,true,true,true,true,true,true,true,true,false,false,false,false,false,false,false,false,false,false,false,false,false,false,false,false,false,false,false,false,false,false,false,false,false,false,false,false,false,false,false,false,false,false,false,false,false,false,false,false,false,false,false,false,false,false,false,false,false,false,false]
abbrev bz10_51 : Array Bool := #[true,true,true,true,true,true,true,true,true,true,true,true,true,true,true,true,true,true,true,true,true,true,true,true,true,true,true,true,true,true,true,true,true,true,true,true,true,true,true,true,true,true,true,true,true,true,true,true,true,true,false,true,false,false,false,false,false,false,false,false,false,false,false,false,false,false,false,false,false,false,false,false,false,false,false,false,false,false,false,false,false,false,false,false,false,false,false,false,false,false,false,false,false,false,false,false,false,false,false,false,false]
abbrev bz10_52 : Array Bool := #[true,true,true,true,true,true,true,true,true,true,true,true,true,true,true,true,true,true,true,true,true,true,true,true,true,true,true,true,true,true,true,true,true,true,true,true,true,true,true,true,true,true,true,true,true,true,true,true,true,true,true,true,false,false,false,false,false,false,false,false,false,false,false,false,false,false,false,false,false,false,false,false,false,false,false,false,false,false,false,false,false,false,false,false,false,false,false,false,false,false,false,false,false,false,false,false,false,false,false,false,false]
abbrev bz10_53 : Array Bool := #[true,true,true,true,true,true,true,true,true,true,true,true,true,true,true,true,true,true,true,true,true,true,true,true,true,true,true,true,true,true,true,true,true,true,true,true,true,true,true,true,true,true,true,true,true,true,true,true,true,true,true,true,true,false,false,false,false,false,false,false,false,false,false,false,false,false,false,false,false,false,false,false,false,false,false,false,false,false,false,false,false,false,false,false,false,false,false,false,false,false,false,false,false,false,false,false,false,false,false,false,false]
abbrev bz10_54 : Array Bool := #[true,true,true,true,true,true,true,true,true,true,true,true,true,true,true,true,true,true,true,true,true,true,true,true,true,true,true,true,true,true,true,true,true,true,true,true,true,true,true,true,true,true,true,true,true,true,true,true,true,true,true,true,true,true,false,false,false,false,false,false,false,false,false,false,false,false,false,false,false,false,false,false,false,false,false,false,false,false,false,false,false,false,false,false,false,false,false,false,false,false,false,false,false,false,false,false,false,false,false,false,false]
abbrev bz10_55 : Array Bool := #[true,true,true,true,true,true,true,true,true,true,true,true,true,true,true,true,true,true,true,true,true,true,true,true,true,true,true,true,true,true,true,true,true,true,true,true,true,true,true,true,true,true,true,true,true,true,true,true,true,true,true,true,true,true,true,false,false,false,false,false,false,false,false,false,false,false,false,false,false,false,false,false,false,false,false,false,false,false,false,false,false,false,false,false,false,false,false,false,false,false,false,false,false,false,false,false,false,false,false,false,false]
abbrev bz10_56 : Array Bool := #[true,true,true,true,true,true,true,true,true,true,true,true,true,true,true,true,true,true,true,true,true,true,true,true,true,true,true,true,true,true,true,true,true,true,true,true,true,true,true,true,true,true,true,true,true,true,true,true,true,true,true,true,true,true,true,true,false,false,false,false,false,false,false,false,false,false,false,false,false,false,false,false,false,false,false,false,false,false,false,false,false,false,false,false,false,false,false,false,false,false,false,false,false,false,false,false,false,false,false,false,false]
abbrev bz10_57 : Array Bool := #[true,true,true,true,true,true,true,true,true,true,true,true,true,true,true,true,true,true,true,true,true,true,true,true,true,true,true,true,true,true,true,true,true,true,true,true,true,true,true,true,true,true,true,true,true,true,true,true,true,true,true,true,true,true,true,true,true,false,false,false,false,false,false,false,false,false,false,false,false,false,false,false,false,false,false,false,false,false,false,false,false,false,false,false,false,false,false,false,false,false,false,false,false,false,false,false,false,false,false,false,false]
abbrev bz10_58 : Array Bool := #[true,true,true,true,true,true,true,true,true,true,true,true,true,true,true,true,true,true,true,true,true,true,true,true,true,true,true,true,true,true,true,true,true,true,true,true,true,true,true,true,true,true,true,true,true,true,true,true,true,true,true,true,true,true,true,true,true,false,true,false,false,false,false,false,false,false,false,false,false,false,false,false,false,false,false,false,false,false,false,false,false,false,false,false,false,false,false,false,false,false,false,false,false,false,false,false,false,false,false,false,false]
abbrev bz10_59 : Array Bool := #[true,true,true,true,true,true,true,true,true,true,true,true,true,true,true,true,true,true,true,true,true,true,true,true,true,true,true,true,true,true,true,true,true,true,true,true,true,true,true,true,true,true,true,true,true,true,true,true,true,true,true,true,true,true,true,true,true,false,true,true,false,false,false,false,false,false,false,false,false,false,false,false,false,false,false,false,false,false,false,false,false,false,false,false,false,false,false,false,false,false,false,false,false,false,false,false,false,false,false,false,false]
abbrev bz10_60 : Array Bool := #[true,true,true,true,true,true,true,true,true,true,true,true,true,true,true,true,true,true,true,true,true,true,true,true,true,true,true,true,true,true,true,true,true,true,true,true,true,true,true,true,true,true,true,true,true,true,true,true,true,true,true,true,true,true,true,true,true,false,true,true,true,false,false,false,false,false,false,false,false,false,false,false,false,false,false,false,false,false,false,false,false,false,false,false,false,false,false,false,false,false,false,false,false,false,false,false,false,false,false,false,false]
abbrev bz10_61 : Array Bool := #[true,true,true,true,true,true,true,true,true,true,true,true,true,true,true,true,true,true,true,true,true,true,true,true,true,true,true,true,true,true,true,true,true,true,true,true,true,true,true,true,true,true,true,true,true,true,true,true,true,true,true,true,true,true,true,true,true,true,true,true,true,false,false,false,false,false,false,false,false,false,false,false,false,false,false,false,false,false,false,false,false,false,false,false,false,false,false,false,false,false,false,false,false,false,false,false,false,false,false,false,false]
abbrev bz10_62 : Array Bool := #[true,true,true,true,true,true,true,true,true,true,true,true,true,true,true,true,true,true,true,true,true,true,true,true,true,true,true,true,true,true,true,true,true,true,true,true,true,true,true,true,true,true,true,true,true,true,true,true,true,true,true,true,true,true,true,true,true,true,true,true,true,true,false,false,false,false,false,false,false,false,false,false,false,false,false,false,false,false,false,false,false,false,false,false,false,false,false,false,false,false,false,false,false,false,false,false,false,false,false,false,false]
abbrev bz10_63 : Array Bool := #[true,true,true,true,true,true,true,true,true,true,true,true,true,true,true,true,true,true,true,true,true,true,true,true,true,true,true,true,true,true,true,true,true,true,true,true,true,true,true,true,true,true,true,true,true,true,true,true,true,true,true,true,true,true,true,true,true,true,true,true,true,true,true,false,false,false,false,false,false,false,false,false,false,false,false,false,false,false,false,false,false,false,false,false,false,false,false,false,false,false,false,false,false,false,false,false,false,false,false,false,false]
abbrev bz10_64 : Array Bool := #[true,true,true,true,true,true,true,true,true,true,true,true,true,true,true,true,true,true,true,true,true,true,true,true,true,true,true,true,true,true,true,true,true,true,true,true,true,true,true,true,true,true,true,true,true,true,true,true,true,true,true,true,true,true,true,true,true,true,true,true,true,true,true,true,false,false,false,false,false,false,false,false,false,false,false,false,false,false,false,false,false,false,false,false,false,false,false,false,false,false,false,false,false,false,false,false,false,false,false,false,false]
abbrev bz10_65 : Array Bool := #[true,true,true,true,true,true,true,true,true,true,true,true,true,true,true,true,true,true,true,true,true,true,true,true,true,true,true,true,true,true,true,true,true,true,true,true,true,true,true,true,true,true,true,true,true,true,true,true,true,true,true,true,true,true,true,true,true,true,true,true,true,true,true,true,true,false,false,false,false,false,false,false,false,false,false,false,false,false,false,false,false,false,false,false,false,false,false,false,false,false,false,false,false,false,false,false,false,false,false,false,false]
abbrev bz10_66 : Array Bool := #[true,true,true,true,true,true,true,true,true,true,true,true,true,true,true,true,true,true,true,true,true,true,true,true,true,true,true,true,true,true,true,true,true,true,true,true,true,true,true,true,true,true,true,true,true,true,true,true,true,true,true,true,true,true,true,true,true,true,true,true,true,true,true,true,true,true,false,false,false,false,false,false,false,false,false,false,false,false,false,false,false,false,false,false,false,false,false,false,false,false,false,false,false,false,false,false,false,false,false,false,false]
abbrev bz10_67 : Array Bool := #[true,true,true,true,true,true,true,true,true,true,true,true,true,true,true,true,true,true,true,true,true,true,true,true,true,true,true,true,true,true,true,true,true,true,true,true,true,true,true,true,true,true,true,true,true,true,true,true,true,true,true,true,true,true,true,true,true,true,true,true,true,true,true,true,true,true,false,true,false,false,false,false,false,false,false,false,false,false,false,false,false,false,false,false,false,false,false,false,false,false,false,false,false,false,false,false,false,false,false,false,false]
abbrev bz10_68 : Array Bool := #[true,true,true,true,true,true,true,true,true,true,true,true,true,true,true,true,true,true,true,true,true,true,true,true,true,true,true,true,true,true,true,true,true,true,true,true,true,true,true,true,true,true,true,true,true,true,true,true,true,true,true,true,true,true,true,true,true,true,true,true,true,true,true,true,true,true,false,true,true,false,false,false,false,false,false,false,false,false,false,false,false,false,false,false,false,false,false,false,false,false,false,false,false,false,false,false,false,false,false,false,false]
abbrev bz10_69 : Array Bool := #[true,true,true,true,true,true,true,true,true,true,true,true,true,true,true,true,true,true,true,true,true,true,true,true,true,true,true,true,true,true,true,true,true,true,true,true,true,true,true,true,true,true,true,true,true,true,true,true,true,true,true,true,true,true,true,true,true,true,true,true,true,true,true,true,true,true,false,true,true,false,false,true,false,false,false,false,false,false,false,false,false,false,false,false,false,false,false,false,false,false,false,false,false,false,false,false,false,false,false,false,false]
abbrev bz10_70 : Array Bool := #[true,true,true,true,true,true,true,true,true,true,true,true,true,true,true,true,true,true,true,true,true,true,true,true,true,true,true,true,true,true,true,true,true,true,true,true,true,true,true,true,true,true,true,true,true,true,true,true,true,true,true,true,true,true,true,true,true,true,true,true,true,true,true,true,true,true,false,true,true,false,false,true,true,false,false,false,false,false,false,false,false,false,false,false,false,false,false,false,false,false,false,false,false,false,false,false,false,false,false,false,false]
abbrev bz10_71 : Array Bool := #[true,true,true,true,true,true,true,true,true,true,true,true,true,true,true,true,true,true,true,true,true,true,true,true,true,true,true,true,true,true,true,true,true,true,true,true,true,true,true,true,true,true,true,true,true,true,true,true,true,true,true,true,true,true,true,true,true,true,true,true,true,true,true,true,true,true,false,true,true,false,false,true,true,true,false,false,false,false,false,false,false,false,false,false,false,false,false,false,false,false,false,false,false,false,false,false,false,false,false,false,false]
abbrev bz10_72 : Array Bool := #[true,true,true,true,true,true,true,true,true,true,true,true,true,true,true,true,true,true,true,true,true,true,true,true,true,true,true,true,true,true,true,true,true,true,true,true,true,true,true,true,true,true,true,true,true,true,true,true,true,true,true,true,true,true,true,true,true,true,true,true,true,true,true,true,true,true,true,true,true,false,false,true,true,true,false,false,false,false,false,false,false,false,false,false,false,false,false,false,false,false,false,false,false,false,false,false,false,false,false,false,false]
abbrev bz10_73 : Array Bool := #[true,true,true,true,true,true,true,true,true,true,true,true,true,true,true,true,true,true,true,true,true,true,true,true,true,true,true,true,true,true,true,true,true,true,true,true,true,true,true,true,true,true,true,true,true,true,true,true,true,true,true,true,true,true,true,true,true,true,true,true,true,true,true,true,true,true,true,true,true,true,false,true,true,true,false,false,false,false,false,false,false,false,false,false,false,false,false,false,false,false,false,false,false,false,false,false,false,false,false,false,false]
abbrev bz10_74 : Array Bool := #[true,true,true,true,true,true,true,true,true,true,true,true,true,true,true,true,true,true,true,true,true,true,true,true,true,true,true,true,true,true,true,true,true,true,true,true,true,true,true,true,true,true,true,true,true,true,true,true,true,true,true,true,true,true,true,true,true,true,true,true,true,true,true,true,true,true,true,true,true,true,true,true,true,true,false,false,false,false,false,false,false,false,false,false,false,false,false,false,false,false,false,false,false,false,false,false,false,false,false,false,false]
abbrev bz10_75 : Array Bool := #[true,true,true,true,true,true,true,true,true,true,true,true,true,true,true,true,true,true,true,true,true,true,true,true,true,true,true,true,true,true,true,true,true,true,true,true,true,true,true,true,true,true,true,true,true,true,true,true,true,true,true,true,true,true,true,true,true,true,true,true,true,true,true,true,true,true,true,true,true,true,true,true,true,true,true,false,false,false,false,false,false,false,false,false,false,false,false,false,false,false,false,false,false,false,false,false,false,false,false,false,false]
abbrev bz10_76 : Array Bool := #[true,true,true,true,true,true,true,true,true,true,true,true,true,true,true,true,true,true,true,true,true,true,true,true,true,true,true,true,true,true,true,true,true,true,true,true,true,true,true,true,true,true,true,true,true,true,true,true,true,true,true,true,true,true,true,true,true,true,true,true,true,true,true,true,true,true,true,true,true,true,true,true,true,true,true,true,false,false,false,false,false,false,false,false,false,false,false,false,false,false,false,false,false,false,false,false,false,false,false,false,false]
abbrev bz10_77 : Array Bool := #[true,true,true,true,true,true,true,true,true,true,true,true,true,true,true,true,true,true,true,true,true,true,true,true,true,true,true,true,true,true,true,true,true,true,true,true,true,true,true,true,true,true,true,true,true,true,true,true,true,true,true,true,true,true,true,true,true,true,true,true,true,true,true,true,true,true,true,true,true,true,true,true,true,true,true,true,true,false,false,false,false,false,false,false,false,false,false,false,false,false,false,false,false,false,false,false,false,false,false,false,false]
abbrev bz10_78 : Array Bool := #[true,true,true,true,true,true,true,true,true,true,true,true,true,true,true,true,true,true,true,true,true,true,true,true,true,true,true,true,true,true,true,true,true,true,true,true,true,true,true,true,true,true,true,true,true,true,true,true,true,true,true,true,true,true,true,true,true,true,true,true,true,true,true,true,true,true,true,true,true,true,true,true,true,true,true,true,true,true,false,false,false,false,false,false,false,false,false,false,false,false,false,false,false,false,false,false,false,false,false,false,false]
abbrev bz10_79 : Array Bool := #[true,true,true,true,true,true,true,true,true,true,true,true,true,true,true,true,true,true,true,true,true,true,true,true,true,true,true,true,true,true,true,true,true,true,true,true,true,true,true,true,true,true,true,true,true,true,true,true,true,true,true,true,true,true,true,true,true,true,true,true,true,true,true,true,true,true,true,true,true,true,true,true,true,true,true,true,true,true,true,false,false,false,false,false,false,false,false,false,false,false,false,false,false,false,false,false,false,false,false,false,false]
abbrev bz10_80 : Array Bool := #[true,true,true,true,true,true,true,true,true,true,true,true,true,true,true,true,true,true,true,true,true,true,true,true,true,true,true,true,true,true,true,true,true,true,true,true,true,true,true,true,true,true,true,true,true,true,true,true,true,true,true,true,true,true,true,true,true,true,true,true,true,true,true,true,true,true,true,true,true,true,true,true,true,true,true,true,true,true,true,false,true,false,false,false,false,false,false,false,false,false,false,false,false,false,false,false,false,false,false,false,false]
abbrev bz10_81 : Array Bool := #[true,true,true,true,true,true,true,true,true,true,true,true,true,true,true,true,true,true,true,true,true,true,true,true,true,true,true,true,true,true,true,true,true,true,true,true,true,true,true,true,true,true,true,true,true,true,true,true,true,true,true,true,true,true,true,true,true,true,true,true,true,true,true,true,true,true,true,true,true,true,true,true,true,true,true,true,true,true,true,false,true,true,false,false,false,false,false,false,false,false,false,false,false,false,false,false,false,false,false,false,false]
abbrev bz10_82 : Array Bool := #[true,true,true,true,true,true,true,true,true,true,true,true,true,true,true,true,true,true,true,true,true,true,true,true,true,true,true,true,true,true,true,true,true,true,true,true,true,true,true,true,true,true,true,true,true,true,true,true,true,true,true,true,true,true,true,true,true,true,true,true,true,true,true,true,true,true,true,true,true,true,true,true,true,true,true,true,true,true,true,false,true,true,false,false,true,false,false,false,false,false,false,false,false,false,false,false,false,false,false,false,false]
abbrev bz10_83 : Array Bool := #[true,true,true,true,true,true,true,true,true,true,true,true,true,true,true,true,true,true,true,true,true,true,true,true,true,true,true,true,true,true,true,true,true,true,true,true,true,true,true,true,true,true,true,true,true,true,true,true,true,true,true,true,true,true,true,true,true,true,true,true,true,true,true,true,true,true,true,true,true,true,true,true,true,true,true,true,true,true,true,false,true,true,false,false,true,true,false,false,false,false,false,false,false,false,false,false,false,false,false,false,false]
abbrev bz10_84 : Array Bool := #[true,true,true,true,true,true,true,true,true,true,true,true,true,true,true,true,true,true,true,true,true,true,true,true,true,true,true,true,true,true,true,true,true,true,true,true,true,true,true,true,true,true,true,true,true,true,true,true,true,true,true,true,true,true,true,true,true,true,true,true,true,true,true,true,true,true,true,true,true,true,true,true,true,true,true,true,true,true,true,false,true,true,false,false,true,true,true,false,false,false,false,false,false,false,false,false,false,false,false,false,false]
abbrev bz10_85 : Array Bool := #[true,true,true,true,true,true,true,true,true,true,true,true,true,true,true,true,true,true,true,true,true,true,true,true,true,true,true,true,true,true,true,true,true,true,true,true,true,true,true,true,true,true,true,true,true,true,true,true,true,true,true,true,true,true,true,true,true,true,true,true,true,true,true,true,true,true,true,true,true,true,true,true,true,true,true,true,true,true,true,true,true,true,false,false,true,true,true,false,false,false,false,false,false,false,false,false,false,false,false,false,false]
abbrev bz10_86 : Array Bool := #[true,true,true,true,true,true,true,true,true,true,true,true,true,true,true,true,true,true,true,true,true,true,true,true,true,true,true,true,true,true,true,true,true,true,true,true,true,true,true,true,true,true,true,true,true,true,true,true,true,true,true,true,true,true,true,true,true,true,true,true,true,true,true,true,true,true,true,true,true,true,true,true,true,true,true,true,true,true,true,true,true,true,true,false,true,true,true,false,false,false,false,false,false,false,false,false,false,false,false,false,false]
abbrev bz10_87 : Array Bool := #[true,true,true,true,true,true,true,true,true,true,true,true,true,true,true,true,true,true,true,true,true,true,true,true,true,true,true,true,true,true,true,true,true,true,true,true,true,true,true,true,true,true,true,true,true,true,true,true,true,true,true,true,true,true,true,true,true,true,true,true,true,true,true,true,true,true,true,true,true,true,true,true,true,true,true,true,true,true,true,true,true,true,true,true,true,true,true,false,false,false,false,false,false,false,false,false,false,false,false,false,false]
abbrev bz10_88 : Array Bool := #[true,true,true,true,true,true,true,true,true,true,true,true,true,true,true,true,true,true,true,true,true,true,true,true,true,true,true,true,true,true,true,true,true,true,true,true,true,true,true,true,true,true,true,true,true,true,true,true,true,true,true,true,true,true,true,true,true,true,true,true,true,true,true,true,true,true,true,true,true,true,true,true,true,true,true,true,true,true,true,true,true,true,true,true,true,true,true,true,false,false,false,false,false,false,false,false,false,false,false,false,false]
abbrev bz10_89 : Array Bool := #[true,true,true,true,true,true,true,true,true,true,true,true,true,true,true,true,true,true,true,true,true,true,true,true,true,true,true,true,true,true,true,true,true,true,true,true,true,true,true,true,true,true,true,true,true,true,true,true,true,true,true,true,true,true,true,true,true,true,true,true,true,true,true,true,true,true,true,true,true,true,true,true,true,true,true,true,true,true,true,true,true,true,true,true,true,true,true,true,true,false,false,false,false,false,false,false,false,false,false,false,false]
abbrev bz10_90 : Array Bool := #[true,true,true,true,true,true,true,true,true,true,true,true,true,true,true,true,true,true,true,true,true,true,true,true,true,true,true,true,true,true,true,true,true,true,true,true,true,true,true,true,true,true,true,true,true,true,true,true,true,true,true,true,true,true,true,true,true,true,true,true,true,true,true,true,true,true,true,true,true,true,true,true,true,true,true,true,true,true,true,true,true,true,true,true,true,true,true,true,true,true,false,false,false,false,false,false,false,false,false,false,false]
abbrev bz10_91 : Array Bool := #[true,true,true,true,true,true,true,true,true,true,true,true,true,true,true,true,true,true,true,true,true,true,true,true,true,true,true,true,true,true,true,true,true,true,true,true,true,true,true,true,true,true,true,true,true,true,true,true,true,true,true,true,true,true,true,true,true,true,true,true,true,true,true,true,true,true,true,true,true,true,true,true,true,true,true,true,true,true,true,true,true,true,true,true,true,true,true,true,true,true,true,false,false,false,false,false,false,false,false,false,false]
abbrev bz10_92 : Array Bool := #[true,true,true,true,true,true,true,true,true,true,true,true,true,true,true,true,true,true,true,true,true,true,true,true,true,true,true,true,true,true,true,true,true,true,true,true,true,true,true,true,true,true,true,true,true,true,true,true,true,true,true,true,true,true,true,true,true,true,true,true,true,true,true,true,true,true,true,true,true,true,true,true,true,true,true,true,true,true,true,true,true,true,true,true,true,true,true,true,true,true,true,true,false,false,false,false,false,false,false,false,false]
abbrev bz10_93 : Array Bool := #[true,true,true,true,true,true,true,true,true,true,true,true,true,true,true,true,true,true,true,true,true,true,true,true,true,true,true,true,true,true,true,true,true,true,true,true,true,true,true,true,true,true,true,true,true,true,true,true,true,true,true,true,true,true,true,true,true,true,true,true,true,true,true,true,true,true,true,true,true,true,true,true,true,true,true,true,true,true,true,true,true,true,true,true,true,true,true,true,true,true,true,true,false,true,false,false,false,false,false,false,false]
abbrev bz10_94 : Array Bool := #[true,true,true,true,true,true,true,true,true,true,true,true,true,true,true,true,true,true,true,true,true,true,true,true,true,true,true,true,true,true,true,true,true,true,true,true,true,true,true,true,true,true,true,true,true,true,true,true,true,true,true,true,true,true,true,true,true,true,true,true,true,true,true,true,true,true,true,true,true,true,true,true,true,true,true,true,true,true,true,true,true,true,true,true,true,true,true,true,true,true,true,true,false,true,true,false,false,false,false,false,false]
abbrev bz10_95 : Array Bool := #[true,true,true,true,true,true,true,true,true,true,true,true,true,true,true,true,true,true,true,true,true,true,true,true,true,true,true,true,true,true,true,true,true,true,true,true,true,true,true,true,true,true,true,true,true,true,true,true,true,true,true,true,true,true,true,true,true,true,true,true,true,true,true,true,true,true,true,true,true,true,true,true,true,true,true,true,true,true,true,true,true,true,true,true,true,true,true,true,true,true,true,true,false,true,true,false,false,true,false,false,false]
abbrev bz10_96 : Array Bool := #[true,true,true,true,true,true,true,true,true,true,true,true,true,true,true,true,true,true,true,true,true,true,true,true,true,true,true,true,true,true,true,true,true,true,true,true,true,true,true,true,true,true,true,true,true,true,true,true,true,true,true,true,true,true,true,true,true,true,true,true,true,true,true,true,true,true,true,true,true,true,true,true,true,true,true,true,true,true,true,true,true,true,true,true,true,true,true,true,true,true,true,true,false,true,true,false,false,true,true,false,false]
abbrev bz10_97 : Array Bool := #[true,true,true,true,true,true,true,true,true,true,true,true,true,true,true,true,true,true,true,true,true,true,true,true,true,true,true,true,true,true,true,true,true,true,true,true,true,true,true,true,true,true,true,true,true,true,true,true,true,true,true,true,true,true,true,true,true,true,true,true,true,true,true,true,true,true,true,true,true,true,true,true,true,true,true,true,true,true,true,true,true,true,true,true,true,true,true,true,true,true,true,true,true,true,true,false,false,true,true,false,false]
abbrev bz10_98 : Array Bool := #[true,true,true,true,true,true,true,true,true,true,true,true,true,true,true,true,true,true,true,true,true,true,true,true,true,true,true,true,true,true,true,true,true,true,true,true,true,true,true,true,true,true,true,true,true,true,true,true,true,true,true,true,true,true,true,true,true,true,true,true,true,true,true,true,true,true,true,true,true,true,true,true,true,true,true,true,true,true,true,true,true,true,true,true,true,true,true,true,true,true,true,true,true,true,true,true,false,true,true,false,false]
abbrev bz10_99 : Array Bool := #[true,true,true,true,true,true,true,true,true,true,true,true,true,true,true,true,true,true,true,true,true,true,true,true,true,true,true,true,true,true,true,true,true,true,true,true,true,true,true,true,true,true,true,true,true,true,true,true,true,true,true,true,true,true,true,true,true,true,true,true,true,true,true,true,true,true,true,true,true,true,true,true,true,true,true,true,true,true,true,true,true,true,true,true,true,true,true,true,true,true,true,true,true,true,true,true,true,true,true,false,false]
abbrev bz10_100 : Array Bool := #[true,true,true,true,true,true,true,true,true,true,true,true,true,true,true,true,true,true,true,true,true,true,true,true,true,true,true,true,true,true,true,true,true,true,true,true,true,true,true,true,true,true,true,true,true,true,true,true,true,true,true,true,true,true,true,true,true,true,true,true,true,true,true,true,true,true,true,true,true,true,true,true,true,true,true,true,true,true,true,true,true,true,true,true,true,true,true,true,true,true,true,true,true,true,true,true,true,true,true,true,false]
abbrev bz10_101 : Array Bool := #[true,true,true,true,true,true,true,true,true,true,true,true,true,true,true,true,true,true,true,true,true,true,true,true,true,true,true,true,true,true,true,true,true,true,true,true,true,true,true,true,true,true,true,true,true,true,true,true,true,true,true,true,true,true,true,true,true,true,true,true,true,true,true,true,true,true,true,true,true,true,true,true,true,true,true,true,true,true,true,true,true,true,true,true,true,true,true,true,true,true,true,true,true,true,true,true,true,true,true,true,true]
abbrev bz10_102 : Array Bool := #[false,false,false,false,false,false,false,false,false,false,false,false,false,false,false,false,false,false,false,false,false,false,false,false,false]
abbrev bz10_103 : Array Bool := #[true,false,false,false,false,false,false,false,false,false,false,false,false,false,false,false,false,false,false,false,false,false,false,false,false]
abbrev bz10_104 : Array Bool := #[true,true,false,false,false,false,false,false,false,false,false,false,false,false,false,false,false,false,false,false,false,false,false,false,false]
abbrev bz10_105 : Array Bool := #[true,true,true,false,false,false,false,false,false,false,false,false,false,false,false,false,false,false,false,false,false,false,false,false,false]
abbrev bz10_106 : Array Bool := #[true,true,true,true,false,false,false,false,false,false,false,false,false,false,false,false,false,false,false,false,false,false,false,false,false]
abbrev bz10_107 : Array Bool := #[true,true,true,true,true,false,false,false,false,false,false,false,false,false,false,false,false,false,false,false,false,false,false,false,false]
abbrev bz10_108 : Array Bool := #[true,true,true,true,true,true,false,false,false,false,false,false,false,false,false,false,false,false,false,false,false,false,false,false,false]
abbrev bz10_109 : Array Bool := #[true,true,true,true,true,true,true,false,false,false,false,false,false,false,false,false,false,false,false,false,false,false,false,false,false]
abbrev bz10_110 : Array Bool := #[true,true,true,true,true,true,true,false,true,false,false,false,false,false,false,false,false,false,false,false,false,false,false,false,false]
abbrev bz10_111 : Array Bool := #[true,true,true,true,true,true,true,false,true,true,false,false,false,false,false,false,false,false,false,false,false,false,false,false,false]
abbrev bz10_112 : Array Bool := #[true,true,true,true,true,true,true,false,true,true,true,false,false,false,false,false,false,false,false,false,false,false,false,false,false]
abbrev bz10_113 : Array Bool := #[true,true,true,true,true,true,true,false,true,true,true,true,false,false,false,false,false,false,false,false,false,false,false,false,false]
abbrev bz10_114 : Array Bool := #[true,true,true,true,true,true,true,false,true,true,true,true,true,false,false,false,false,false,false,false,false,false,false,false,false]
abbrev bz10_115 : Array Bool := #[true,true,true,true,true,true,true,false,true,true,true,true,true,false,false,false,true,false,false,false,false,false,false,false,false]
abbrev bz10_116 : Array Bool := #[true,true,true,true,true,true,true,false,true,true,true,true,true,false,false,false,true,true,false,false,false,false,false,false,false]
abbrev bz10_117 : Array Bool := #[true,true,true,true,true,true,true,false,true,true,true,true,true,false,false,false,true,true,true,false,false,false,false,false,false]
abbrev bz10_118 : Array Bool := #[true,true,true,true,true,true,true,true,true,true,true,true,true,false,false,false,true,true,true,false,false,false,false,false,false]
abbrev bz10_119 : Array Bool := #[true,true,true,true,true,true,true,true,true,true,true,true,true,true,false,false,true,true,true,false,false,false,false,false,false]
abbrev bz10_120 : Array Bool := #[true,true,true,true,true,true,true,true,true,true,true,true,true,true,true,false,true,true,true,false,false,false,false,false,false]
abbrev bz10_121 : Array Bool := #[true,true,true,true,true,true,true,true,true,true,true,true,true,true,true,true,true,true,true,false,false,false,false,false,false]
abbrev bz10_122 : Array Bool := #[true,true,true,true,true,true,true,true,true,true,true,true,true,true,true,true,true,true,true,true,false,false,false,false,false]
abbrev bz10_123 : Array Bool := #[true,true,true,true,true,true,true,true,true,true,true,true,true,true,true,true,true,true,true,true,true,false,false,false,false]
abbrev bz10_124 : Array Bool := #[true,true,true,true,true,true,true,true,true,true,true,true,true,true,true,true,true,true,true,true,true,true,false,false,false]
abbrev bz10_125 : Array Bool := #[true,true,true,true,true,true,true,true,true,true,true,true,true,true,true,true,true,true,true,true,true,true,true,false,false]
abbrev bz10_126 : Array Bool := #[true,true,true,true,true,true,true,true,true,true,true,true,true,true,true,true,true,true,true,true,true,true,true,true,false]
abbrev bz10_127 : Array Bool := #[true,true,true,true,true,true,true,true,true,true,true,true,true,true,true,true,true,true,true,true,true,true,true,true,true]
/-! ### laws_FnCadences: function 3 -/
mutual
def laws_FnCadences.j0 : Nat → Int → Int → Int → Int → Int → Bool → ByteArray → List Int → List Int → Option (Bool)
 | 0, _, _, _, _, _, _, _, _, _ => none
 | k + 1, x8, x9, x10, x11, x12, x90, x299000, x299001, x299002 => if x90 = true then (none) else (laws_FnCadences.l0 k x8 x9 x10 x11 x12 0 x299000 x299001 x299002)
def laws_FnCadences.l0 : Nat → Int → Int → Int → Int → Int → Int → ByteArray → List Int → List Int → Option (Bool)
 | 0, _, _, _, _, _, _, _, _, _ => none
 | k + 1, x8, x9, x10, x11, x12, x14, x299000, x299001, x299002 => if x14 < x9 then (if x14 = x12 then (laws_FnCadences.l0 k x8 x9 x10 x11 x12 (wrap64 (x14 + 1)) x299000 x299001 x299002) else ((impl_IsCadence.f k x299000 x299001 x299002 x8 x14 x10 x11).bind fun t308 => (if t308 = true then (none) else (laws_FnCadences.l0 k x8 x9 x10 x11 x12 (wrap64 (x14 + 1)) x299000 x299001 x299002)))) else ((impl_GapFor.f k x299000 x299001 x299002 x8 x12 x10).bind fun bt309 => ((impl_PhraseFor.f k x299000 x299001 x299002 x8 x12 x11).bind fun bt311 => ((impl_PlacesOf.f k x299000 x299001 x299002 x8 x12 x10 x11).bind fun bt313 => ((impl_SamsPassed.f k x299000 x299001 x299002 x8 x12 x10 x11).bind fun bt317 => (if bt309.2 = 0 then (if bt309.1 > x11 then (none) else ((spec_IsCadence.f k x299000 x299001 x299002 x8 x12 x10 bt309.1).bind fun t319 => (if t319 = true then (if bt311.2 = 0 then (if bt311.1 > x10 then (none) else ((spec_IsCadence.f k x299000 x299001 x299002 x8 x12 bt311.1 x11).bind fun t320 => (if t320 = true then (if bt313.2 = 0 then (if (bt313.1.length : Int) = 4 then (if bt317.2 = 0 then (if 0 < (bt313.1.length : Int) then (if (rd bt313.1 0) = x12 then (if 3 < (bt313.1.length : Int) then (if (rd bt313.1 3) = (wrap64 (bt317.1 * x9)) then (if 1 < (bt313.1.length : Int) then (if (wrap64 ((rd bt313.1 1) - (rd bt313.1 0))) = (wrap64 (x10 + x11)) then (if 2 < (bt313.1.length : Int) then (if (wrap64 ((rd bt313.1 2) - (rd bt313.1 1))) = (wrap64 (x10 + x11)) then (laws_FnCadences.j2 k x8 x9 ((wrap64 ((rd bt313.1 3) - (rd bt313.1 2))) != (wrap64 (x10 - 1))) x299000 x299001 x299002) else (none)) else (none)) else (none)) else (none)) else (none)) else (none)) else (none)) else (none)) else (none)) else (none)) else (none)) else (none)))) else (none)) else (none)))) else (none))))))
def laws_FnCadences.j2 : Nat → Int → Int → Bool → ByteArray → List Int → List Int → Option (Bool)
 | 0, _, _, _, _, _, _ => none
 | k + 1, x8, x9, x241, x299000, x299001, x299002 => if x241 = true then (none) else (laws_FnCadences.l1 k x8 x9 0 0 x299000 x299001 x299002)
def laws_FnCadences.l1 : Nat → Int → Int → Int → Int → ByteArray → List Int → List Int → Option (Bool)
 | 0, _, _, _, _, _, _, _ => none
 | k + 1, x8, x9, x23, x24, x299000, x299001, x299002 => if x24 < x9 then ((impl_CountCadences.f k x299000 x299001 x299002 x8 x24 6 3).bind fun bt329 => ((impl_ListCadences.f k x299000 x299001 x299002 x8 x24 6 3).bind fun bt331 => (if bt329.2 = 0 then (if bt331.2 = 0 then (laws_FnCadences.j4 k x8 x9 x23 x24 bt329.1 bt331.1 ((bt331.1.length : Int) != bt329.1) x299000 x299001 x299002) else (none)) else (none)))) else (some (x23 == 24))
def laws_FnCadences.j4 : Nat → Int → Int → Int → Int → Int → List (List Int) → Bool → ByteArray → List Int → List Int → Option (Bool)
 | 0, _, _, _, _, _, _, _, _, _, _ => none
 | k + 1, x8, x9, x23, x24, x25, x27, x272, x299000, x299001, x299002 => if x272 = true then (none) else (laws_FnCadences.l2 k x8 x9 x23 x24 x25 x27 0 x299000 x299001 x299002)
def laws_FnCadences.l2 : Nat → Int → Int → Int → Int → Int → List (List Int) → Int → ByteArray → List Int → List Int → Option (Bool)
 | 0, _, _, _, _, _, _, _, _, _, _ => none
 | k + 1, x8, x9, x23, x24, x25, x27, x29, x299000, x299001, x299002 => if x29 < (x27.length : Int) then (if 0 ≤ x29 then (if ((rd_L3 x27 x29).length : Int) = 2 then (if 0 < ((rd_L3 x27 x29).length : Int) then (if 1 < ((rd_L3 x27 x29).length : Int) then ((spec_IsCadence.f k x299000 x299001 x299002 x8 x24 (rd (rd_L3 x27 x29) 0) (rd (rd_L3 x27 x29) 1)).bind fun t340 => (if t340 = true then (laws_FnCadences.l2 k x8 x9 x23 x24 x25 x27 (wrap64 (x29 + 1)) x299000 x299001 x299002) else (none))) else (none)) else (none)) else (none)) else (none)) else (laws_FnCadences.l1 k x8 x9 (wrap64 (x23 + x25)) (wrap64 (x24 + 1)) x299000 x299001 x299002)
end
def laws_FnCadences.f (k : Nat) (l0 : List Int) (l1 : List Int) : Option (Bool) := (laws_r8Long.f l0 l1).bind fun t290 => (if t290 = true then (some true) else ((spec_R8Tala.f k l0).bind fun bt291 => ((spec_BeatCount.f k bt291.1 bt291.2.1 bt291.2.2).bind fun bt299 => ((laws_r8At.f l1 0 4).bind fun t301 => ((laws_r8At.f l1 1 30).bind fun t302 => ((laws_r8At.f l1 2 12).bind fun t303 => ((impl_CadenceStart.f k bt291.1 bt291.2.1 bt291.2.2 (wrap64 (1 + t301)) (wrap64 (1 + t302)) t303).bind fun bt304 => (if bt304.2 = 0 then (if bt304.1 < 0 then (none) else (if bt304.1 ≥ (wrap64 (bt299.1 * (wrap64 (1 + t301)))) then (none) else ((impl_IsCadence.f k bt291.1 bt291.2.1 bt291.2.2 (wrap64 (1 + t301)) bt304.1 (wrap64 (1 + t302)) t303).bind fun t306 => (if t306 = true then ((impl_EndsOnSam.f k bt291.1 bt291.2.1 bt291.2.2 (wrap64 (1 + t301)) bt304.1 (wrap64 ((wrap64 (3 * (wrap64 (1 + t302)))) + (wrap64 (2 * t303))))).bind fun t307 => (laws_FnCadences.j0 k (wrap64 (1 + t301)) (wrap64 (bt299.1 * (wrap64 (1 + t301)))) (wrap64 (1 + t302)) t303 bt304.1 (!t307) bt291.1 bt291.2.1 bt291.2.2)) else (none))))) else (none)))))))))
theorem laws_FnCadences.mono_l : ∀ k, (∀ y0 y1 y2 y3 y4 y5 y6 y7 y8, LeO (laws_FnCadences.j0 k y0 y1 y2 y3 y4 y5 y6 y7 y8) (laws_FnCadences.j0 (k + 1) y0 y1 y2 y3 y4 y5 y6 y7 y8)) ∧ (∀ y0 y1 y2 y3 y4 y5 y6 y7 y8, LeO (laws_FnCadences.l0 k y0 y1 y2 y3 y4 y5 y6 y7 y8) (laws_FnCadences.l0 (k + 1) y0 y1 y2 y3 y4 y5 y6 y7 y8)) ∧ (∀ y0 y1 y2 y3 y4 y5, LeO (laws_FnCadences.j2 k y0 y1 y2 y3 y4 y5) (laws_FnCadences.j2 (k + 1) y0 y1 y2 y3 y4 y5)) ∧ (∀ y0 y1 y2 y3 y4 y5 y6, LeO (laws_FnCadences.l1 k y0 y1 y2 y3 y4 y5 y6) (laws_FnCadences.l1 (k + 1) y0 y1 y2 y3 y4 y5 y6)) ∧ (∀ y0 y1 y2 y3 y4 y5 y6 y7 y8 y9, LeO (laws_FnCadences.j4 k y0 y1 y2 y3 y4 y5 y6 y7 y8 y9) (laws_FnCadences.j4 (k + 1) y0 y1 y2 y3 y4 y5 y6 y7 y8 y9)) ∧ (∀ y0 y1 y2 y3 y4 y5 y6 y7 y8 y9, LeO (laws_FnCadences.l2 k y0 y1 y2 y3 y4 y5 y6 y7 y8 y9) (laws_FnCadences.l2 (k + 1) y0 y1 y2 y3 y4 y5 y6 y7 y8 y9))
 | 0 => ⟨fun _ _ _ _ _ _ _ _ _ r h => by simp [laws_FnCadences.j0] at h, fun _ _ _ _ _ _ _ _ _ r h => by simp [laws_FnCadences.l0] at h, fun _ _ _ _ _ _ r h => by simp [laws_FnCadences.j2] at h, fun _ _ _ _ _ _ _ r h => by simp [laws_FnCadences.l1] at h, fun _ _ _ _ _ _ _ _ _ _ r h => by simp [laws_FnCadences.j4] at h, fun _ _ _ _ _ _ _ _ _ _ r h => by simp [laws_FnCadences.l2] at h⟩
 | k + 1 => by
  obtain ⟨ih0, ih1, ih2, ih3, ih4, ih5⟩ := laws_FnCadences.mono_l k
  refine ⟨?_, ?_, ?_, ?_, ?_, ?_⟩
  ·intro y0 y1 y2 y3 y4 y5 y6 y7 y8
   unfold laws_FnCadences.j0
   repeat' first
   | (with_reducible exact ih0 _ _ _ _ _ _ _ _ _)
   | (with_reducible exact ih1 _ _ _ _ _ _ _ _ _)
   | (with_reducible exact ih2 _ _ _ _ _ _)
   | (with_reducible exact ih3 _ _ _ _ _ _ _)
   | (with_reducible exact ih4 _ _ _ _ _ _ _ _ _ _)
   | (with_reducible exact ih5 _ _ _ _ _ _ _ _ _ _)
   | (with_reducible exact impl_CadenceStart.mono _ _ _ _ _ _ _)
   | (with_reducible exact impl_CountCadences.mono _ _ _ _ _ _ _ _)
   | (with_reducible exact impl_EndsOnSam.mono _ _ _ _ _ _ _)
   | (with_reducible exact impl_GapFor.mono _ _ _ _ _ _ _)
   | (with_reducible exact impl_IsCadence.mono _ _ _ _ _ _ _ _)
   | (with_reducible exact impl_ListCadences.mono _ _ _ _ _ _ _ _)
   | (with_reducible exact impl_PhraseFor.mono _ _ _ _ _ _ _)
   | (with_reducible exact impl_PlacesOf.mono _ _ _ _ _ _ _ _)
   | (with_reducible exact impl_SamsPassed.mono _ _ _ _ _ _ _ _)
   | (with_reducible exact spec_BeatCount.mono _ _ _ _)
   | (with_reducible exact spec_IsCadence.mono _ _ _ _ _ _ _ _)
   | (with_reducible exact spec_R8Tala.mono _ _)
   | (with_reducible exact LeO.refl _)
   | (with_reducible exact LeO.none _)
   | (with_reducible refine LeO.ite ?_ ?_)
   | (with_reducible refine LeO.bind ?_ (fun _ => ?_))
   | exact ih0 _ _ _ _ _ _ _ _ _
   | exact ih1 _ _ _ _ _ _ _ _ _
   | exact ih2 _ _ _ _ _ _
   | exact ih3 _ _ _ _ _ _ _
   | exact ih4 _ _ _ _ _ _ _ _ _ _
   | exact ih5 _ _ _ _ _ _ _ _ _ _
   | exact impl_CadenceStart.mono _ _ _ _ _ _ _
   | exact impl_CountCadences.mono _ _ _ _ _ _ _ _
   | exact impl_EndsOnSam.mono _ _ _ _ _ _ _
   | exact impl_GapFor.mono _ _ _ _ _ _ _
   | exact impl_IsCadence.mono _ _ _ _ _ _ _ _
   | exact impl_ListCadences.mono _ _ _ _ _ _ _ _
   | exact impl_PhraseFor.mono _ _ _ _ _ _ _
   | exact impl_PlacesOf.mono _ _ _ _ _ _ _ _
   | exact impl_SamsPassed.mono _ _ _ _ _ _ _ _
   | exact spec_BeatCount.mono _ _ _ _
   | exact spec_IsCadence.mono _ _ _ _ _ _ _ _
   | exact spec_R8Tala.mono _ _
   | exact LeO.none _
   | refine LeO.ite ?_ ?_
   | refine LeO.bind ?_ (fun _ => ?_)
  ·intro y0 y1 y2 y3 y4 y5 y6 y7 y8
   unfold laws_FnCadences.l0
   repeat' first
   | (with_reducible exact ih0 _ _ _ _ _ _ _ _ _)
   | (with_reducible exact ih1 _ _ _ _ _ _ _ _ _)
   | (with_reducible exact ih2 _ _ _ _ _ _)
   | (with_reducible exact ih3 _ _ _ _ _ _ _)
   | (with_reducible exact ih4 _ _ _ _ _ _ _ _ _ _)
   | (with_reducible exact ih5 _ _ _ _ _ _ _ _ _ _)
   | (with_reducible exact impl_CadenceStart.mono _ _ _ _ _ _ _)
   | (with_reducible exact impl_CountCadences.mono _ _ _ _ _ _ _ _)
   | (with_reducible exact impl_EndsOnSam.mono _ _ _ _ _ _ _)
   | (with_reducible exact impl_GapFor.mono _ _ _ _ _ _ _)
   | (with_reducible exact impl_IsCadence.mono _ _ _ _ _ _ _ _)
   | (with_reducible exact impl_ListCadences.mono _ _ _ _ _ _ _ _)
   | (with_reducible exact impl_PhraseFor.mono _ _ _ _ _ _ _)
   | (with_reducible exact impl_PlacesOf.mono _ _ _ _ _ _ _ _)
   | (with_reducible exact impl_SamsPassed.mono _ _ _ _ _ _ _ _)
   | (with_reducible exact spec_BeatCount.mono _ _ _ _)
   | (with_reducible exact spec_IsCadence.mono _ _ _ _ _ _ _ _)
   | (with_reducible exact spec_R8Tala.mono _ _)
   | (with_reducible exact LeO.refl _)
   | (with_reducible exact LeO.none _)
   | (with_reducible refine LeO.ite ?_ ?_)
   | (with_reducible refine LeO.bind ?_ (fun _ => ?_))
   | exact ih0 _ _ _ _ _ _ _ _ _
   | exact ih1 _ _ _ _ _ _ _ _ _
   | exact ih2 _ _ _ _ _ _
   | exact ih3 _ _ _ _ _ _ _
   | exact ih4 _ _ _ _ _ _ _ _ _ _
   | exact ih5 _ _ _ _ _ _ _ _ _ _
   | exact impl_CadenceStart.mono _ _ _ _ _ _ _
   | exact impl_CountCadences.mono _ _ _ _ _ _ _ _
   | exact impl_EndsOnSam.mono _ _ _ _ _ _ _
   | exact impl_GapFor.mono _ _ _ _ _ _ _
   | exact impl_IsCadence.mono _ _ _ _ _ _ _ _
   | exact impl_ListCadences.mono _ _ _ _ _ _ _ _
   | exact impl_PhraseFor.mono _ _ _ _ _ _ _
   | exact impl_PlacesOf.mono _ _ _ _ _ _ _ _
   | exact impl_SamsPassed.mono _ _ _ _ _ _ _ _
   | exact spec_BeatCount.mono _ _ _ _
   | exact spec_IsCadence.mono _ _ _ _ _ _ _ _
   | exact spec_R8Tala.mono _ _
   | exact LeO.none _
   | refine LeO.ite ?_ ?_
   | refine LeO.bind ?_ (fun _ => ?_)
  ·intro y0 y1 y2 y3 y4 y5
   unfold laws_FnCadences.j2
   repeat' first
   | (with_reducible exact ih0 _ _ _ _ _ _ _ _ _)
   | (with_reducible exact ih1 _ _ _ _ _ _ _ _ _)
   | (with_reducible exact ih2 _ _ _ _ _ _)
   | (with_reducible exact ih3 _ _ _ _ _ _ _)
   | (with_reducible exact ih4 _ _ _ _ _ _ _ _ _ _)
   | (with_reducible exact ih5 _ _ _ _ _ _ _ _ _ _)
   | (with_reducible exact impl_CadenceStart.mono _ _ _ _ _ _ _)
   | (with_reducible exact impl_CountCadences.mono _ _ _ _ _ _ _ _)
   | (with_reducible exact impl_EndsOnSam.mono _ _ _ _ _ _ _)
   | (with_reducible exact impl_GapFor.mono _ _ _ _ _ _ _)
   | (with_reducible exact impl_IsCadence.mono _ _ _ _ _ _ _ _)
   | (with_reducible exact impl_ListCadences.mono _ _ _ _ _ _ _ _)
   | (with_reducible exact impl_PhraseFor.mono _ _ _ _ _ _ _)
   | (with_reducible exact impl_PlacesOf.mono _ _ _ _ _ _ _ _)
   | (with_reducible exact impl_SamsPassed.mono _ _ _ _ _ _ _ _)
   | (with_reducible exact spec_BeatCount.mono _ _ _ _)
   | (with_reducible exact spec_IsCadence.mono _ _ _ _ _ _ _ _)
   | (with_reducible exact spec_R8Tala.mono _ _)
   | (with_reducible exact LeO.refl _)
   | (with_reducible exact LeO.none _)
   | (with_reducible refine LeO.ite ?_ ?_)
   | (with_reducible refine LeO.bind ?_ (fun _ => ?_))
   | exact ih0 _ _ _ _ _ _ _ _ _
   | exact ih1 _ _ _ _ _ _ _ _ _
   | exact ih2 _ _ _ _ _ _
   | exact ih3 _ _ _ _ _ _ _
   | exact ih4 _ _ _ _ _ _ _ _ _ _
   | exact ih5 _ _ _ _ _ _ _ _ _ _
   | exact impl_CadenceStart.mono _ _ _ _ _ _ _
   | exact impl_CountCadences.mono _ _ _ _ _ _ _ _
   | exact impl_EndsOnSam.mono _ _ _ _ _ _ _
   | exact impl_GapFor.mono _ _ _ _ _ _ _
   | exact impl_IsCadence.mono _ _ _ _ _ _ _ _
   | exact impl_ListCadences.mono _ _ _ _ _ _ _ _
   | exact impl_PhraseFor.mono _ _ _ _ _ _ _
   | exact impl_PlacesOf.mono _ _ _ _ _ _ _ _
   | exact impl_SamsPassed.mono _ _ _ _ _ _ _ _
   | exact spec_BeatCount.mono _ _ _ _
   | exact spec_IsCadence.mono _ _ _ _ _ _ _ _
   | exact spec_R8Tala.mono _ _
   | exact LeO.none _
   | refine LeO.ite ?_ ?_
   | refine LeO.bind ?_ (fun _ => ?_)
  ·intro y0 y1 y2 y3 y4 y5 y6
   unfold laws_FnCadences.l1
   repeat' first
   | (with_reducible exact ih0 _ _ _ _ _ _ _ _ _)
   | (with_reducible exact ih1 _ _ _ _ _ _ _ _ _)
   | (with_reducible exact ih2 _ _ _ _ _ _)
   | (with_reducible exact ih3 _ _ _ _ _ _ _)
   | (with_reducible exact ih4 _ _ _ _ _ _ _ _ _ _)
   | (with_reducible exact ih5 _ _ _ _ _ _ _ _ _ _)
   | (with_reducible exact impl_CadenceStart.mono _ _ _ _ _ _ _)
   | (with_reducible exact impl_CountCadences.mono _ _ _ _ _ _ _ _)
   | (with_reducible exact impl_EndsOnSam.mono _ _ _ _ _ _ _)
   | (with_reducible exact impl_GapFor.mono _ _ _ _ _ _ _)
   | (with_reducible exact impl_IsCadence.mono _ _ _ _ _ _ _ _)
   | (with_reducible exact impl_ListCadences.mono _ _ _ _ _ _ _ _)
   | (with_reducible exact impl_PhraseFor.mono _ _ _ _ _ _ _)
   | (with_reducible exact impl_PlacesOf.mono _ _ _ _ _ _ _ _)
   | (with_reducible exact impl_SamsPassed.mono _ _ _ _ _ _ _ _)
   | (with_reducible exact spec_BeatCount.mono _ _ _ _)
   | (with_reducible exact spec_IsCadence.mono _ _ _ _ _ _ _ _)
   | (with_reducible exact spec_R8Tala.mono _ _)
   | (with_reducible exact LeO.refl _)
   | (with_reducible exact LeO.none _)
   | (with_reducible refine LeO.ite ?_ ?_)
   | (with_reducible refine LeO.bind ?_ (fun _ => ?_))
   | exact ih0 _ _ _ _ _ _ _ _ _
   | exact ih1 _ _ _ _ _ _ _ _ _
   | exact ih2 _ _ _ _ _ _
   | exact ih3 _ _ _ _ _ _ _
   | exact ih4 _ _ _ _ _ _ _ _ _ _
   | exact ih5 _ _ _ _ _ _ _ _ _ _
   | exact impl_CadenceStart.mono _ _ _ _ _ _ _
   | exact impl_CountCadences.mono _ _ _ _ _ _ _ _
   | exact impl_EndsOnSam.mono _ _ _ _ _ _ _
   | exact impl_GapFor.mono _ _ _ _ _ _ _
   | exact impl_IsCadence.mono _ _ _ _ _ _ _ _
   | exact impl_ListCadences.mono _ _ _ _ _ _ _ _
   | exact impl_PhraseFor.mono _ _ _ _ _ _ _
   | exact impl_PlacesOf.mono _ _ _ _ _ _ _ _
   | exact impl_SamsPassed.mono _ _ _ _ _ _ _ _
   | exact spec_BeatCount.mono _ _ _ _
   | exact spec_IsCadence.mono _ _ _ _ _ _ _ _
   | exact spec_R8Tala.mono _ _
   | exact LeO.none _
   | refine LeO.ite ?_ ?_
   | refine LeO.bind ?_ (fun _ => ?_)
  ·intro y0 y1 y2 y3 y4 y5 y6 y7 y8 y9
   unfold laws_FnCadences.j4
   repeat' first
   | (with_reducible exact ih0 _ _ _ _ _ _ _ _ _)
   | (with_reducible exact ih1 _ _ _ _ _ _ _ _ _)
   | (with_reducible exact ih2 _ _ _ _ _ _)
   | (with_reducible exact ih3 _ _ _ _ _ _ _)
   | (with_reducible exact ih4 _ _ _ _ _ _ _ _ _ _)
   | (with_reducible exact ih5 _ _ _ _ _ _ _ _ _ _)
   | (with_reducible exact impl_CadenceStart.mono _ _ _ _ _ _ _)
   | (with_reducible exact impl_CountCadences.mono _ _ _ _ _ _ _ _)
   | (with_reducible exact impl_EndsOnSam.mono _ _ _ _ _ _ _)
   | (with_reducible exact impl_GapFor.mono _ _ _ _ _ _ _)
   | (with_reducible exact impl_IsCadence.mono _ _ _ _ _ _ _ _)
   | (with_reducible exact impl_ListCadences.mono _ _ _ _ _ _ _ _)
   | (with_reducible exact impl_PhraseFor.mono _ _ _ _ _ _ _)
   | (with_reducible exact impl_PlacesOf.mono _ _ _ _ _ _ _ _)
   | (with_reducible exact impl_SamsPassed.mono _ _ _ _ _ _ _ _)
   | (with_reducible exact spec_BeatCount.mono _ _ _ _)
   | (with_reducible exact spec_IsCadence.mono _ _ _ _ _ _ _ _)
   | (with_reducible exact spec_R8Tala.mono _ _)
   | (with_reducible exact LeO.refl _)
   | (with_reducible exact LeO.none _)
   | (with_reducible refine LeO.ite ?_ ?_)
   | (with_reducible refine LeO.bind ?_ (fun _ => ?_))
   | exact ih0 _ _ _ _ _ _ _ _ _
   | exact ih1 _ _ _ _ _ _ _ _ _
   | exact ih2 _ _ _ _ _ _
   | exact ih3 _ _ _ _ _ _ _
   | exact ih4 _ _ _ _ _ _ _ _ _ _
   | exact ih5 _ _ _ _ _ _ _ _ _ _
   | exact impl_CadenceStart.mono _ _ _ _ _ _ _
   | exact impl_CountCadences.mono _ _ _ _ _ _ _ _
   | exact impl_EndsOnSam.mono _ _ _ _ _ _ _
   | exact impl_GapFor.mono _ _ _ _ _ _ _
   | exact impl_IsCadence.mono _ _ _ _ _ _ _ _
   | exact impl_ListCadences.mono _ _ _ _ _ _ _ _
   | exact impl_PhraseFor.mono _ _ _ _ _ _ _
   | exact impl_PlacesOf.mono _ _ _ _ _ _ _ _
   | exact impl_SamsPassed.mono _ _ _ _ _ _ _ _
   | exact spec_BeatCount.mono _ _ _ _
   | exact spec_IsCadence.mono _ _ _ _ _ _ _ _
   | exact spec_R8Tala.mono _ _
   | exact LeO.none _
   | refine LeO.ite ?_ ?_
   | refine LeO.bind ?_ (fun _ => ?_)
  ·intro y0 y1 y2 y3 y4 y5 y6 y7 y8 y9
   unfold laws_FnCadences.l2
   repeat' first
   | (with_reducible exact ih0 _ _ _ _ _ _ _ _ _)
   | (with_reducible exact ih1 _ _ _ _ _ _ _ _ _)
   | (with_reducible exact ih2 _ _ _ _ _ _)
   | (with_reducible exact ih3 _ _ _ _ _ _ _)
   | (with_reducible exact ih4 _ _ _ _ _ _ _ _ _ _)
   | (with_reducible exact ih5 _ _ _ _ _ _ _ _ _ _)
   | (with_reducible exact impl_CadenceStart.mono _ _ _ _ _ _ _)
   | (with_reducible exact impl_CountCadences.mono _ _ _ _ _ _ _ _)
   | (with_reducible exact impl_EndsOnSam.mono _ _ _ _ _ _ _)
   | (with_reducible exact impl_GapFor.mono _ _ _ _ _ _ _)
   | (with_reducible exact impl_IsCadence.mono _ _ _ _ _ _ _ _)
   | (with_reducible exact impl_ListCadences.mono _ _ _ _ _ _ _ _)
   | (with_reducible exact impl_PhraseFor.mono _ _ _ _ _ _ _)
   | (with_reducible exact impl_PlacesOf.mono _ _ _ _ _ _ _ _)
   | (with_reducible exact impl_SamsPassed.mono _ _ _ _ _ _ _ _)
   | (with_reducible exact spec_BeatCount.mono _ _ _ _)
   | (with_reducible exact spec_IsCadence.mono _ _ _ _ _ _ _ _)
   | (with_reducible exact spec_R8Tala.mono _ _)
   | (with_reducible exact LeO.refl _)
   | (with_reducible exact LeO.none _)
   | (with_reducible refine LeO.ite ?_ ?_)
   | (with_reducible refine LeO.bind ?_ (fun _ => ?_))
   | exact ih0 _ _ _ _ _ _ _ _ _
   | exact ih1 _ _ _ _ _ _ _ _ _
   | exact ih2 _ _ _ _ _ _
   | exact ih3 _ _ _ _ _ _ _
   | exact ih4 _ _ _ _ _ _ _ _ _ _
   | exact ih5 _ _ _ _ _ _ _ _ _ _
   | exact impl_CadenceStart.mono _ _ _ _ _ _ _
   | exact impl_CountCadences.mono _ _ _ _ _ _ _ _
   | exact impl_EndsOnSam.mono _ _ _ _ _ _ _
   | exact impl_GapFor.mono _ _ _ _ _ _ _
   | exact impl_IsCadence.mono _ _ _ _ _ _ _ _
   | exact impl_ListCadences.mono _ _ _ _ _ _ _ _
   | exact impl_PhraseFor.mono _ _ _ _ _ _ _
   | exact impl_PlacesOf.mono _ _ _ _ _ _ _ _
   | exact impl_SamsPassed.mono _ _ _ _ _ _ _ _
   | exact spec_BeatCount.mono _ _ _ _
   | exact spec_IsCadence.mono _ _ _ _ _ _ _ _
   | exact spec_R8Tala.mono _ _
   | exact LeO.none _
   | refine LeO.ite ?_ ?_
   | refine LeO.bind ?_ (fun _ => ?_)
theorem laws_FnCadences.mono : ∀ a0 a1 k, LeO (laws_FnCadences.f k a0 a1) (laws_FnCadences.f (k + 1) a0 a1) := by
 intro a0 a1 k
 obtain ⟨ih0, ih1, ih2, ih3, ih4, ih5⟩ := laws_FnCadences.mono_l k
 unfold laws_FnCadences.f
 repeat' first
   | (with_reducible exact ih0 _ _ _ _ _ _ _ _ _)
   | (with_reducible exact ih1 _ _ _ _ _ _ _ _ _)
   | (with_reducible exact ih2 _ _ _ _ _ _)
   | (with_reducible exact ih3 _ _ _ _ _ _ _)
   | (with_reducible exact ih4 _ _ _ _ _ _ _ _ _ _)
   | (with_reducible exact ih5 _ _ _ _ _ _ _ _ _ _)
   | (with_reducible exact impl_CadenceStart.mono _ _ _ _ _ _ _)
   | (with_reducible exact impl_CountCadences.mono _ _ _ _ _ _ _ _)
   | (with_reducible exact impl_EndsOnSam.mono _ _ _ _ _ _ _)
   | (with_reducible exact impl_GapFor.mono _ _ _ _ _ _ _)
   | (with_reducible exact impl_IsCadence.mono _ _ _ _ _ _ _ _)
   | (with_reducible exact impl_ListCadences.mono _ _ _ _ _ _ _ _)
   | (with_reducible exact impl_PhraseFor.mono _ _ _ _ _ _ _)
   | (with_reducible exact impl_PlacesOf.mono _ _ _ _ _ _ _ _)
   | (with_reducible exact impl_SamsPassed.mono _ _ _ _ _ _ _ _)
   | (with_reducible exact spec_BeatCount.mono _ _ _ _)
   | (with_reducible exact spec_IsCadence.mono _ _ _ _ _ _ _ _)
   | (with_reducible exact spec_R8Tala.mono _ _)
   | (with_reducible exact LeO.refl _)
   | (with_reducible exact LeO.none _)
   | (with_reducible refine LeO.ite ?_ ?_)
   | (with_reducible refine LeO.bind ?_ (fun _ => ?_))
   | exact ih0 _ _ _ _ _ _ _ _ _
   | exact ih1 _ _ _ _ _ _ _ _ _
   | exact ih2 _ _ _ _ _ _
   | exact ih3 _ _ _ _ _ _ _
   | exact ih4 _ _ _ _ _ _ _ _ _ _
   | exact ih5 _ _ _ _ _ _ _ _ _ _
   | exact impl_CadenceStart.mono _ _ _ _ _ _ _
   | exact impl_CountCadences.mono _ _ _ _ _ _ _ _
   | exact impl_EndsOnSam.mono _ _ _ _ _ _ _
   | exact impl_GapFor.mono _ _ _ _ _ _ _
   | exact impl_IsCadence.mono _ _ _ _ _ _ _ _
   | exact impl_ListCadences.mono _ _ _ _ _ _ _ _
   | exact impl_PhraseFor.mono _ _ _ _ _ _ _
   | exact impl_PlacesOf.mono _ _ _ _ _ _ _ _
   | exact impl_SamsPassed.mono _ _ _ _ _ _ _ _
   | exact spec_BeatCount.mono _ _ _ _
   | exact spec_IsCadence.mono _ _ _ _ _ _ _ _
   | exact spec_R8Tala.mono _ _
   | exact LeO.none _
   | refine LeO.ite ?_ ?_
   | refine LeO.bind ?_ (fun _ => ?_)
def laws_FnCadences.T21 : Bool × List (List Nat × List Nat) := (true, [([], []), ([0], [0]), ([1], [1]), ([2], [2]), ([2], [2]), ([3, 4, 2], [2, 3, 4]), ([2, 5], [2, 5]), ([6, 2], [6]), ([7], [7]), ([7], [7]), ([7], [7]), ([7], [7]), ([7], [7]), ([8, 9, 10, 11, 12, 7, 7], [7, 8, 9, 10, 11, 12]), ([13, 7], [7, 13]), ([7, 14], [7, 14]), ([15, 13], [15]), ([16], [16]), ([17, 16], [16, 17]), ([16, 18], [16, 18]), ([19, 16], [19]), ([20], [20]), ([20], [20]), ([21, 22, 20], [20, 21, 22]), ([20, 23], [20, 23]), ([24, 20], [24]), ([25], [25]), ([25], [25]), ([25], [25]), ([25], [25]), ([25], [25]), ([26, 27, 28, 29, 30, 25, 25], [25, 26, 27, 28, 29, 30]), ([31, 25], [25, 31]), ([25, 32], [25, 32]), ([33, 31], [33]), ([34], [34]), ([35, 34], [34, 35]), ([34, 36], [34, 36]), ([37, 34], [37]), ([38], [38]), ([39, 38], [38, 39]), ([40, 38], [38, 40]), ([38, 41], [38, 41]), ([42, 38], [42]), ([43], [43]), ([44, 43], [43, 44]), ([43, 45], [43, 45]), ([46, 43], [46]), ([47], [47]), ([48, 47], [47, 48]), ([49, 47], [47, 49]), ([47], [47]), ([50, 51, 47], [47, 50, 51]), ([47, 52], [47, 52]), ([53, 47], [53]), ([54], [54]), ([55, 54], [54, 55]), ([56, 54], [54, 56]), ([54], [54]), ([54], [54]), ([58, 59, 54], [54, 58, 59]), ([57, 60, 54], [54, 57, 60]), ([54, 61], [54, 61]), ([62, 54], [62]), ([63], [63]), ([64, 63], [63, 64]), ([65, 63], [63, 65]), ([63], [63]), ([67, 63], [63, 67]), ([68, 63], [63, 68]), ([66, 69, 63], [63, 66, 69]), ([63], [63]), ([63], [63]), ([71, 72, 63], [63, 71, 72]), ([70, 73, 63], [63, 70, 73]), ([63, 74], [63, 74]), ([75, 63], [75]), ([76], [76]), ([77, 76], [76, 77]), ([78, 76], [76, 78]), ([76], [76]), ([80, 76], [76, 80]), ([81, 76], [76, 81]), ([79, 82, 76], [76, 79, 82]), ([76], [76]), ([76], [76]), ([84, 85, 76], [76, 84, 85]), ([83, 86, 76], [76, 83, 86]), ([76, 87], [76, 87]), ([88, 76], [88]), ([89], [89]), ([90, 89], [89, 90]), ([91, 89], [89, 91]), ([89], [89]), ([93, 89], [89, 93]), ([94, 89], [89, 94]), ([92, 95, 89], [89, 92, 95]), ([89], [89]), ([97, 89], [89, 97]), ([96, 98, 89], [89, 96, 98]), ([89, 99], [89, 99])])
def laws_FnCadences.B21 : List Nat := [0, 1, 3, 7, 7, 31, 63, 127, 255, 255, 255, 255, 255, 8191, 16383, 32767, 65535, 131071, 262143, 524287, 1048575, 2097151, 2097151, 8388607, 16777215, 33554431, 67108863, 67108863, 67108863, 67108863, 67108863, 2147483647, 4294967295, 8589934591, 17179869183, 34359738367, 68719476735, 137438953471, 274877906943, 549755813887, 1099511627775, 2199023255551, 4398046511103, 8796093022207, 17592186044415, 35184372088831, 70368744177663, 140737488355327, 281474976710655, 562949953421311, 1125899906842623, 281474976710655, 4503599627370495, 9007199254740991, 18014398509481983, 36028797018963967, 72057594037927935, 144115188075855871, 36028797018963967, 36028797018963967, 900719925474099199, 2305843009213693951, 4611686018427387903, 9223372036854775807, 18446744073709551615, 36893488147419103231, 73786976294838206463, 18446744073709551615, 166020696663385964543, 461168601842738790399, 1180591620717411303423, 18446744073709551615, 18446744073709551615, 7101996468378177372159, 18889465931478580854783, 37778931862957161709567, 75557863725914323419135, 151115727451828646838271, 302231454903657293676543, 604462909807314587353087, 151115727451828646838271, 1360041547066457821544447, 3777893186295716170956799, 9671406556917033397649407, 151115727451828646838271, 151115727451828646838271, 58179555068954029032734719, 154742504910672534362390527, 309485009821345068724781055, 618970019642690137449562111, 1237940039285380274899124223, 2475880078570760549798248447, 4951760157141521099596496895, 1237940039285380274899124223, 11141460353568422474092118015, 30948500982134506872478105599, 79228162514264337593543950335, 1237940039285380274899124223, 159694265067814055461987024895, 633825300114114700748351602687, 1267650600228229401496703205375]
theorem laws_FnCadences.tab21 : rtab .any (opsOf Try.f3 21) = laws_FnCadences.T21 := by kernel_rfl
theorem laws_FnCadences.bits21 : waitsOk laws_FnCadences.T21.2 laws_FnCadences.B21 = true := by kernel_rfl
def laws_FnCadences.T34 : Bool × List (List Nat × List Nat) := (true, [([], []), ([], []), ([0, 1], [0, 1]), ([2], [2]), ([3], [3]), ([4], [4]), ([5], [5]), ([6], [6]), ([6], [6]), ([6], [6]), ([6], [6]), ([6], [6]), ([10, 11, 6], [6, 10, 11]), ([12, 6], [6, 12]), ([13, 6], [6, 13]), ([14, 6], [6, 14]), ([6], [6]), ([6], [6]), ([16, 17, 6], [6, 16, 17]), ([18, 6], [6, 18]), ([19, 6], [6, 19]), ([20, 6], [6, 20]), ([7, 8, 9, 15, 21, 6, 6], [6, 7, 8, 9, 15, 21]), ([22, 6], [6, 22]), ([6, 23], [6, 23])])
def laws_FnCadences.B34 : List Nat := [0, 0, 3, 7, 15, 31, 63, 127, 127, 127, 127, 127, 3199, 7295, 15487, 31871, 127, 127, 196735, 458879, 983167, 2031743, 4194303, 8388607, 16777215]
theorem laws_FnCadences.tab34 : rtab .any (opsOf Try.f3 34) = laws_FnCadences.T34 := by kernel_rfl
theorem laws_FnCadences.bits34 : waitsOk laws_FnCadences.T34.2 laws_FnCadences.B34 = true := by kernel_rfl
set_option maxHeartbeats 8000000 in
set_option maxRecDepth 100000 in
theorem laws_FnCadences.calls (k : Nat) (A0 : Option Addr) (c0 : Nat) (l0 : List Int) (A1 : Option Addr) (c1 : Nat) (l1 : List Int) (r : Bool) (w : World) (hr0 : Kd.C (Kd.int .u8) w A0 l0.length l0) (hc0 : l0.length ≤ c0) (hr1 : Kd.C (Kd.int .u8) w A1 l1.length l1) (hc1 : l1.length ≤ c1) (h : laws_FnCadences.f k l0 l1 = some r) :
  Calls Try.prog 3 #[.slice A0 l0.length c0, .slice A1 l1.length c1] w fun e w' => e = .returned (.bool r) ∧ Below w.heap.size w w' := by
 have hu26 := Try.underlying26
 have HR0 := Aside0.mk hr0
 have HC0 := Aside0.mk hc0
 clear hr0 hc0
 have HR1 := Aside0.mk hr1
 have HC1 := Aside0.mk hc1
 clear hr1 hc1
 have HB := Aside0.mk (Below.refl w.heap.size w)
 have H : ((laws_r8Long.f l0 l1).bind fun t290 => (if t290 = true then (some true) else ((spec_R8Tala.f k l0).bind fun bt291 => ((spec_BeatCount.f k bt291.1 bt291.2.1 bt291.2.2).bind fun bt299 => ((laws_r8At.f l1 0 4).bind fun t301 => ((laws_r8At.f l1 1 30).bind fun t302 => ((laws_r8At.f l1 2 12).bind fun t303 => ((impl_CadenceStart.f k bt291.1 bt291.2.1 bt291.2.2 (wrap64 (1 + t301)) (wrap64 (1 + t302)) t303).bind fun bt304 => (if bt304.2 = 0 then (if bt304.1 < 0 then (none) else (if bt304.1 ≥ (wrap64 (bt299.1 * (wrap64 (1 + t301)))) then (none) else ((impl_IsCadence.f k bt291.1 bt291.2.1 bt291.2.2 (wrap64 (1 + t301)) bt304.1 (wrap64 (1 + t302)) t303).bind fun t306 => (if t306 = true then ((impl_EndsOnSam.f k bt291.1 bt291.2.1 bt291.2.2 (wrap64 (1 + t301)) bt304.1 (wrap64 ((wrap64 (3 * (wrap64 (1 + t302)))) + (wrap64 (2 * t303))))).bind fun t307 => (laws_FnCadences.j0 k (wrap64 (1 + t301)) (wrap64 (bt299.1 * (wrap64 (1 + t301)))) (wrap64 (1 + t302)) t303 bt304.1 (!t307) bt291.1 bt291.2.1 bt291.2.2)) else (none))))) else (none)))))))))) = some r := h
 clear h
 replace H := Option.bind_eq_some_iff.mp H
 obtain ⟨t290, A30, H⟩ := H
 replace H : (if t290 = true then (some true) else ((spec_R8Tala.f k l0).bind fun bt291 => ((spec_BeatCount.f k bt291.1 bt291.2.1 bt291.2.2).bind fun bt299 => ((laws_r8At.f l1 0 4).bind fun t301 => ((laws_r8At.f l1 1 30).bind fun t302 => ((laws_r8At.f l1 2 12).bind fun t303 => ((impl_CadenceStart.f k bt291.1 bt291.2.1 bt291.2.2 (wrap64 (1 + t301)) (wrap64 (1 + t302)) t303).bind fun bt304 => (if bt304.2 = 0 then (if bt304.1 < 0 then (none) else (if bt304.1 ≥ (wrap64 (bt299.1 * (wrap64 (1 + t301)))) then (none) else ((impl_IsCadence.f k bt291.1 bt291.2.1 bt291.2.2 (wrap64 (1 + t301)) bt304.1 (wrap64 (1 + t302)) t303).bind fun t306 => (if t306 = true then ((impl_EndsOnSam.f k bt291.1 bt291.2.1 bt291.2.2 (wrap64 (1 + t301)) bt304.1 (wrap64 ((wrap64 (3 * (wrap64 (1 + t302)))) + (wrap64 (2 * t303))))).bind fun t307 => (laws_FnCadences.j0 k (wrap64 (1 + t301)) (wrap64 (bt299.1 * (wrap64 (1 + t301)))) (wrap64 (1 + t302)) t303 bt304.1 (!t307) bt291.1 bt291.2.1 bt291.2.2)) else (none))))) else (none))))))))) = some r := H
 have A3 := Aside0.mk A30
 clear A30
 by_cases c4 : t290 = true
 rotate_left
 ·replace c4 := Bool.eq_false_iff.mpr c4
  subst c4
  have H1 : ((spec_R8Tala.f k l0).bind fun bt291 => ((spec_BeatCount.f k bt291.1 bt291.2.1 bt291.2.2).bind fun bt299 => ((laws_r8At.f l1 0 4).bind fun t301 => ((laws_r8At.f l1 1 30).bind fun t302 => ((laws_r8At.f l1 2 12).bind fun t303 => ((impl_CadenceStart.f k bt291.1 bt291.2.1 bt291.2.2 (wrap64 (1 + t301)) (wrap64 (1 + t302)) t303).bind fun bt304 => (if bt304.2 = 0 then (if bt304.1 < 0 then (none) else (if bt304.1 ≥ (wrap64 (bt299.1 * (wrap64 (1 + t301)))) then (none) else ((impl_IsCadence.f k bt291.1 bt291.2.1 bt291.2.2 (wrap64 (1 + t301)) bt304.1 (wrap64 (1 + t302)) t303).bind fun t306 => (if t306 = true then ((impl_EndsOnSam.f k bt291.1 bt291.2.1 bt291.2.2 (wrap64 (1 + t301)) bt304.1 (wrap64 ((wrap64 (3 * (wrap64 (1 + t302)))) + (wrap64 (2 * t303))))).bind fun t307 => (laws_FnCadences.j0 k (wrap64 (1 + t301)) (wrap64 (bt299.1 * (wrap64 (1 + t301)))) (wrap64 (1 + t302)) t303 bt304.1 (!t307) bt291.1 bt291.2.1 bt291.2.2)) else (none))))) else (none)))))))) = some r := by rw [if_neg (show ¬ (false = true) by decide)] at H; exact H
  clear H
  have H := H1
  clear H1
  replace H := Option.bind_eq_some_iff.mp H
  obtain ⟨⟨t291, t292, t295⟩, A50, H⟩ := H
  replace H : ((spec_BeatCount.f k t291 t292 t295).bind fun bt299 => ((laws_r8At.f l1 0 4).bind fun t301 => ((laws_r8At.f l1 1 30).bind fun t302 => ((laws_r8At.f l1 2 12).bind fun t303 => ((impl_CadenceStart.f k t291 t292 t295 (wrap64 (1 + t301)) (wrap64 (1 + t302)) t303).bind fun bt304 => (if bt304.2 = 0 then (if bt304.1 < 0 then (none) else (if bt304.1 ≥ (wrap64 (bt299.1 * (wrap64 (1 + t301)))) then (none) else ((impl_IsCadence.f k t291 t292 t295 (wrap64 (1 + t301)) bt304.1 (wrap64 (1 + t302)) t303).bind fun t306 => (if t306 = true then ((impl_EndsOnSam.f k t291 t292 t295 (wrap64 (1 + t301)) bt304.1 (wrap64 ((wrap64 (3 * (wrap64 (1 + t302)))) + (wrap64 (2 * t303))))).bind fun t307 => (laws_FnCadences.j0 k (wrap64 (1 + t301)) (wrap64 (bt299.1 * (wrap64 (1 + t301)))) (wrap64 (1 + t302)) t303 bt304.1 (!t307) t291 t292 t295)) else (none))))) else (none))))))) = some r := H
  have A5 := Aside0.mk A50
  clear A50
  replace H := Option.bind_eq_some_iff.mp H
  obtain ⟨⟨t299, t300⟩, A60, H⟩ := H
  replace H : ((laws_r8At.f l1 0 4).bind fun t301 => ((laws_r8At.f l1 1 30).bind fun t302 => ((laws_r8At.f l1 2 12).bind fun t303 => ((impl_CadenceStart.f k t291 t292 t295 (wrap64 (1 + t301)) (wrap64 (1 + t302)) t303).bind fun bt304 => (if bt304.2 = 0 then (if bt304.1 < 0 then (none) else (if bt304.1 ≥ (wrap64 (t299 * (wrap64 (1 + t301)))) then (none) else ((impl_IsCadence.f k t291 t292 t295 (wrap64 (1 + t301)) bt304.1 (wrap64 (1 + t302)) t303).bind fun t306 => (if t306 = true then ((impl_EndsOnSam.f k t291 t292 t295 (wrap64 (1 + t301)) bt304.1 (wrap64 ((wrap64 (3 * (wrap64 (1 + t302)))) + (wrap64 (2 * t303))))).bind fun t307 => (laws_FnCadences.j0 k (wrap64 (1 + t301)) (wrap64 (t299 * (wrap64 (1 + t301)))) (wrap64 (1 + t302)) t303 bt304.1 (!t307) t291 t292 t295)) else (none))))) else (none)))))) = some r := H
  have A6 := Aside0.mk A60
  clear A60
  replace H := Option.bind_eq_some_iff.mp H
  obtain ⟨t301, A70, H⟩ := H
  replace H : ((laws_r8At.f l1 1 30).bind fun t302 => ((laws_r8At.f l1 2 12).bind fun t303 => ((impl_CadenceStart.f k t291 t292 t295 (wrap64 (1 + t301)) (wrap64 (1 + t302)) t303).bind fun bt304 => (if bt304.2 = 0 then (if bt304.1 < 0 then (none) else (if bt304.1 ≥ (wrap64 (t299 * (wrap64 (1 + t301)))) then (none) else ((impl_IsCadence.f k t291 t292 t295 (wrap64 (1 + t301)) bt304.1 (wrap64 (1 + t302)) t303).bind fun t306 => (if t306 = true then ((impl_EndsOnSam.f k t291 t292 t295 (wrap64 (1 + t301)) bt304.1 (wrap64 ((wrap64 (3 * (wrap64 (1 + t302)))) + (wrap64 (2 * t303))))).bind fun t307 => (laws_FnCadences.j0 k (wrap64 (1 + t301)) (wrap64 (t299 * (wrap64 (1 + t301)))) (wrap64 (1 + t302)) t303 bt304.1 (!t307) t291 t292 t295)) else (none))))) else (none))))) = some r := H
  have A7 := Aside0.mk A70
  clear A70
  replace H := Option.bind_eq_some_iff.mp H
  obtain ⟨t302, A80, H⟩ := H
  replace H : ((laws_r8At.f l1 2 12).bind fun t303 => ((impl_CadenceStart.f k t291 t292 t295 (wrap64 (1 + t301)) (wrap64 (1 + t302)) t303).bind fun bt304 => (if bt304.2 = 0 then (if bt304.1 < 0 then (none) else (if bt304.1 ≥ (wrap64 (t299 * (wrap64 (1 + t301)))) then (none) else ((impl_IsCadence.f k t291 t292 t295 (wrap64 (1 + t301)) bt304.1 (wrap64 (1 + t302)) t303).bind fun t306 => (if t306 = true then ((impl_EndsOnSam.f k t291 t292 t295 (wrap64 (1 + t301)) bt304.1 (wrap64 ((wrap64 (3 * (wrap64 (1 + t302)))) + (wrap64 (2 * t303))))).bind fun t307 => (laws_FnCadences.j0 k (wrap64 (1 + t301)) (wrap64 (t299 * (wrap64 (1 + t301)))) (wrap64 (1 + t302)) t303 bt304.1 (!t307) t291 t292 t295)) else (none))))) else (none)))) = some r := H
  have A8 := Aside0.mk A80
  clear A80
  replace H := Option.bind_eq_some_iff.mp H
  obtain ⟨t303, A90, H⟩ := H
  replace H : ((impl_CadenceStart.f k t291 t292 t295 (wrap64 (1 + t301)) (wrap64 (1 + t302)) t303).bind fun bt304 => (if bt304.2 = 0 then (if bt304.1 < 0 then (none) else (if bt304.1 ≥ (wrap64 (t299 * (wrap64 (1 + t301)))) then (none) else ((impl_IsCadence.f k t291 t292 t295 (wrap64 (1 + t301)) bt304.1 (wrap64 (1 + t302)) t303).bind fun t306 => (if t306 = true then ((impl_EndsOnSam.f k t291 t292 t295 (wrap64 (1 + t301)) bt304.1 (wrap64 ((wrap64 (3 * (wrap64 (1 + t302)))) + (wrap64 (2 * t303))))).bind fun t307 => (laws_FnCadences.j0 k (wrap64 (1 + t301)) (wrap64 (t299 * (wrap64 (1 + t301)))) (wrap64 (1 + t302)) t303 bt304.1 (!t307) t291 t292 t295)) else (none))))) else (none))) = some r := H
  have A9 := Aside0.mk A90
  clear A90
  replace H := Option.bind_eq_some_iff.mp H
  obtain ⟨⟨t304, t305⟩, A100, H⟩ := H
  replace H : (if t305 = 0 then (if t304 < 0 then (none) else (if t304 ≥ (wrap64 (t299 * (wrap64 (1 + t301)))) then (none) else ((impl_IsCadence.f k t291 t292 t295 (wrap64 (1 + t301)) t304 (wrap64 (1 + t302)) t303).bind fun t306 => (if t306 = true then ((impl_EndsOnSam.f k t291 t292 t295 (wrap64 (1 + t301)) t304 (wrap64 ((wrap64 (3 * (wrap64 (1 + t302)))) + (wrap64 (2 * t303))))).bind fun t307 => (laws_FnCadences.j0 k (wrap64 (1 + t301)) (wrap64 (t299 * (wrap64 (1 + t301)))) (wrap64 (1 + t302)) t303 t304 (!t307) t291 t292 t295)) else (none))))) else (none)) = some r := H
  have A10 := Aside0.mk A100
  clear A100
  have HC11 := Aside0.mk H
  clear H
  go_enter Try.func3, Try.ntmps3
  go_upto_region 10 with (first | ((with_reducible refine gate_callee (f := 5) rfl ?_); refine goesL_ (some 32) rfl rfl Try.func5 (by kernel_rfl) rfl #[.slice A0 l0.length c0, .slice A1 l1.length c1] rfl (by (try simp only [List.map_toArray, List.map_cons, List.map_nil]); first | done | rfl | (simp only [List.length_drop, List.length_take]; rfl)) ?_; (with_reducible refine (laws_r8Long.calls _ _ l0 _ _ l1 false _ ?side1 ?side2 ?side3 ?side4 A3.out).mono ?_); (case side1 => repeat (first | exact HR0.out | (with_reducible refine Kd.C_alloc ?_ _) | (with_reducible refine Kd.C_drewN ?_ _) | (with_reducible refine Kd.C_drew ?_))); (case side2 => exact HC0.out); (case side3 => repeat (first | exact HR1.out | (with_reducible refine Kd.C_alloc ?_ _) | (with_reducible refine Kd.C_drewN ?_ _) | (with_reducible refine Kd.C_drew ?_))); (case side4 => exact HC1.out); rintro e w' ⟨rfl, ⟨nd, rfl⟩⟩; refine ⟨_, rfl, ?_⟩) | ((with_reducible refine gate_callee (f := 6) rfl ?_); refine goesL_ (some 34) rfl rfl Try.func6 (by kernel_rfl) rfl #[.slice A0 l0.length c0] rfl (by (try simp only [List.map_toArray, List.map_cons, List.map_nil]); first | done | rfl | (simp only [List.length_drop, List.length_take]; rfl)) ?_; (with_reducible refine (spec_R8Tala.calls k _ _ l0 t291 t292 t295 _ ?side1 ?side2 A5.out).mono ?_); (case side1 => repeat (first | exact HR0.out | (with_reducible refine Kd.C_alloc ?_ _) | (with_reducible refine Kd.C_drewN ?_ _) | (with_reducible refine Kd.C_drew ?_))); (case side2 => exact HC0.out); rintro e w12 ⟨v293, v296, rfl, ho0, ho1, hb⟩; refine ⟨_, rfl, ?_⟩; have n0_ := Aside0.mk (Kd.R_lower ho0 (below_size (by repeat (first | (with_reducible first | exact HB.out | apply below_alloc | apply pw_below_drewN | apply below_drew1) | exact HB.out)))); have n1_ := Aside0.mk (Kd.R_lower ho1 (below_size (by repeat (first | (with_reducible first | exact HB.out | apply below_alloc | apply pw_below_drewN | apply below_drew1) | exact HB.out)))); have n2_ := Aside0.mk (below_step (by repeat (first | (with_reducible first | exact HB.out | apply below_alloc | apply pw_below_drewN | apply below_drew1) | exact HB.out)) hb); clear HB; have HO294 := n0_; have HO297 := n1_; have HB := n2_; clear n0_ n1_ n2_; (try clear hb); (try clear hb2); (try clear hk); (try clear hi); (try clear ho0); (try clear ho1)) | ((with_reducible refine gate_dst (N := 5) rfl ?_); (try (refine gate_guard (by rfl) ?_; dsimp only)); refine box_event ?hg (N := 5) ?hd (cs := #[.string (⟨#[]⟩ : ByteArray), .slice none 0 0, .slice none 0 0]) (t := 26) ?hr ?_; (case hd => rfl); (case hg => rfl); (case hr => first | (go_simp; done) | (go_simp; rfl)); intro gb298 hg w13 hbox hb; have n0_ := Aside0.mk (Kd.R_below (by (with_reducible repeat (first | apply Kd.R_alloc | apply Kd.R_drewN | apply Kd.R_drew)); exact HO294.out) hb); have n1_ := Aside0.mk (Kd.R_below (by (with_reducible repeat (first | apply Kd.R_alloc | apply Kd.R_drewN | apply Kd.R_drew)); exact HO297.out) hb); have n2_ := Aside0.mk (below_step (by repeat (first | (with_reducible first | exact HB.out | apply below_alloc | apply pw_below_drewN | apply below_drew1) | exact HB.out)) hb); have n3_ := Aside0.mk (hbox); have n4_ := Aside0.mk ((by rw [hg]; exact (below_size (by repeat (first | (with_reducible first | exact HB.out | apply below_alloc | apply pw_below_drewN | apply below_drew1) | exact HB.out))) : w.heap.size ≤ gb298)); have n5_ := Aside0.mk ((by rw [hg]; exact (below_size (by repeat (first | (with_reducible first | exact HB.out | apply below_alloc | apply pw_below_drewN | apply below_drew1) | exact HB.out))) : w.heap.size ≤ gb298)); clear HO294; clear HO297; clear HB; have HO294 := n0_; have HO297 := n1_; have HB := n2_; have BK298 := n3_; have GW298 := n4_; have GE298 := n5_; clear n0_ n1_ n2_ n3_ n4_ n5_; clear hb hbox hg; have hcz14_0 : w13.cell? ⟨gb298, 0, none⟩ = some (.string (⟨#[]⟩ : ByteArray)) := (blk_cell BK298.out 0).trans rfl; have hcz14_1 : w13.cell? ⟨gb298, 1, none⟩ = some (.slice none 0 0) := (blk_cell BK298.out 1).trans rfl; have hcz14_2 : w13.cell? ⟨gb298, 2, none⟩ = some (.slice none 0 0) := (blk_cell BK298.out 2).trans rfl; have hfz14_0 := blk_frozen BK298.out 0; have hfz14_1 := blk_frozen BK298.out 1; have hfz14_2 := blk_frozen BK298.out 2; obtain ⟨Ao15, co15, eo15⟩ := Kd.R_slice HO294.out; subst eo15; obtain ⟨Ao16, co16, eo16⟩ := Kd.R_slice HO297.out; subst eo16) | ((with_reducible refine gate_callee (f := 7) rfl ?_); refine goesL_ (some 37) rfl rfl Try.func7 (by kernel_rfl) rfl #[.agg #[.string t291, .slice Ao15 t292.length co15, .slice Ao16 t295.length co16]] rfl (by (try simp only [List.map_toArray, List.map_cons, List.map_nil]); first | done | rfl | (simp only [List.length_drop, List.length_take]; rfl)) ?_; (with_reducible refine (spec_BeatCount.calls k t291 _ _ t292 _ _ t295 t299 t300 _ ?side1 ?side2 ?side3 ?side4 A6.out).mono ?_); (case side1 => refine (Kd.R_reads' (e := 2) (base := w.heap.size) (ok := fun k_ => some k_ ≠ (.slice Ao16 t295.length co16 : Value).ownBlock) (n := t292.length) (c := co15) ?_).2.2; exact (by (with_reducible repeat (first | apply Kd.R_alloc | apply Kd.R_drewN | apply Kd.R_drew)); exact (Kd.R_mono (Kd.R_far (p := ⟨gb298, 2, none⟩) (Kd.R_far (p := ⟨gb298, 1, none⟩) (Kd.R_far (p := ⟨gb298, 0, none⟩) (Kd.R_types HO294.out BK298.out (by decide)) (fun _ hk => hk.2) (.string t291)) (fun _ hk => hk.2) (.slice Ao15 t292.length co15)) (fun _ hk => hk.2) (.slice Ao16 t295.length co16)) (fun _ h_ => h_.1)))); (case side2 => exact (Kd.R_reads' HO294.out).2.1); (case side3 => refine (Kd.R_reads' (e := 2) (base := w.heap.size) (ok := fun k_ => some k_ ≠ (.slice Ao15 t292.length co15 : Value).ownBlock) (n := t295.length) (c := co16) ?_).2.2; exact (by (with_reducible repeat (first | apply Kd.R_alloc | apply Kd.R_drewN | apply Kd.R_drew)); exact (Kd.R_mono (Kd.R_far (p := ⟨gb298, 2, none⟩) (Kd.R_far (p := ⟨gb298, 1, none⟩) (Kd.R_far (p := ⟨gb298, 0, none⟩) (Kd.R_types HO297.out BK298.out (by decide)) (fun _ hk => hk.2) (.string t291)) (fun _ hk => hk.2) (.slice Ao15 t292.length co15)) (fun _ hk => hk.2) (.slice Ao16 t295.length co16)) (fun _ h_ => h_.1)))); (case side4 => exact (Kd.R_reads' HO297.out).2.1); rintro e w17 ⟨rfl, hb⟩; refine ⟨_, rfl, ?_⟩; have n0_ := Aside0.mk (Kd.R_below (by (with_reducible repeat (first | apply Kd.R_alloc | apply Kd.R_drewN | apply Kd.R_drew)); exact (Kd.R_mono (Kd.R_far (p := ⟨gb298, 2, none⟩) (Kd.R_far (p := ⟨gb298, 1, none⟩) (Kd.R_far (p := ⟨gb298, 0, none⟩) (Kd.R_types HO294.out BK298.out (by decide)) (fun _ hk => hk.2) (.string t291)) (fun _ hk => hk.2) (.slice Ao15 t292.length co15)) (fun _ hk => hk.2) (.slice Ao16 t295.length co16)) (fun _ h_ => h_.1))) hb); have n1_ := Aside0.mk (Kd.R_below (by (with_reducible repeat (first | apply Kd.R_alloc | apply Kd.R_drewN | apply Kd.R_drew)); exact (Kd.R_mono (Kd.R_far (p := ⟨gb298, 2, none⟩) (Kd.R_far (p := ⟨gb298, 1, none⟩) (Kd.R_far (p := ⟨gb298, 0, none⟩) (Kd.R_types HO297.out BK298.out (by decide)) (fun _ hk => hk.2) (.string t291)) (fun _ hk => hk.2) (.slice Ao15 t292.length co15)) (fun _ hk => hk.2) (.slice Ao16 t295.length co16)) (fun _ h_ => h_.1))) hb); have n2_ := Aside0.mk (blk_below (g := gb298) (o := .cells #[.string t291, .slice Ao15 t292.length co15, .slice Ao16 t295.length co16] 26 (0, 0)) (by (with_reducible repeat (first | refine blk_drewN ?_ _ | refine blk_drew ?_ | refine blk_alloc ?_ _)); refine blk_put (cs := #[.string t291, .slice Ao15 t292.length co15, .slice none 0 0]) ?_ 2 _ rfl; (with_reducible repeat (first | refine blk_drewN ?_ _ | refine blk_drew ?_ | refine blk_alloc ?_ _)); refine blk_put (cs := #[.string t291, .slice none 0 0, .slice none 0 0]) ?_ 1 _ rfl; (with_reducible repeat (first | refine blk_drewN ?_ _ | refine blk_drew ?_ | refine blk_alloc ?_ _)); refine blk_put (cs := #[.string (⟨#[]⟩ : ByteArray), .slice none 0 0, .slice none 0 0]) ?_ 0 _ rfl; (with_reducible repeat (first | refine blk_drewN ?_ _ | refine blk_drew ?_ | refine blk_alloc ?_ _)); exact BK298.out) hb); have n3_ := Aside0.mk (below_step (by repeat (first | (with_reducible first | exact HB.out | apply below_alloc | apply pw_below_drewN | apply below_drew1 | refine below_set ?_ GE298.out) | exact HB.out)) hb); clear HO294; clear HO297; clear BK298; clear HB; have HO294 := n0_; have HO297 := n1_; have BK298 := n2_; have HB := n3_; clear n0_ n1_ n2_ n3_; (try clear hb); (try clear hb2); (try clear hk); (try clear hi)) | ((with_reducible refine gate_callee (f := 8) rfl ?_); refine goesL_ (some 41) rfl rfl Try.func8 (by kernel_rfl) rfl #[.slice A1 l1.length c1, .int .i64 0, .int .i64 4] rfl (by (try simp only [List.map_toArray, List.map_cons, List.map_nil]); first | done | rfl | (simp only [List.length_drop, List.length_take]; rfl)) ?_; (with_reducible refine (laws_r8At.calls _ _ l1 0 4 t301 _ ?side1 ?side2 A7.out).mono ?_); (case side1 => repeat (first | exact (Kd.C_below HR1.out HB.out) | (with_reducible refine Kd.C_alloc ?_ _) | (with_reducible refine Kd.C_drewN ?_ _) | (with_reducible refine Kd.C_drew ?_))); (case side2 => exact HC1.out); rintro e w' ⟨rfl, ⟨nd, rfl⟩⟩; refine ⟨_, rfl, ?_⟩) | ((with_reducible refine gate_callee (f := 8) rfl ?_); refine goesL_ (some 47) rfl rfl Try.func8 (by kernel_rfl) rfl #[.slice A1 l1.length c1, .int .i64 1, .int .i64 30] rfl (by (try simp only [List.map_toArray, List.map_cons, List.map_nil]); first | done | rfl | (simp only [List.length_drop, List.length_take]; rfl)) ?_; (with_reducible refine (laws_r8At.calls _ _ l1 1 30 t302 _ ?side1 ?side2 A8.out).mono ?_); (case side1 => repeat (first | exact (Kd.C_below HR1.out (by repeat (first | (with_reducible first | exact HB.out | apply below_alloc | apply pw_below_drewN | apply below_drew1 | refine below_set ?_ GE298.out) | exact HB.out))) | (with_reducible refine Kd.C_alloc ?_ _) | (with_reducible refine Kd.C_drewN ?_ _) | (with_reducible refine Kd.C_drew ?_))); (case side2 => exact HC1.out); rintro e w' ⟨rfl, ⟨nd, rfl⟩⟩; refine ⟨_, rfl, ?_⟩) | ((with_reducible refine gate_callee (f := 8) rfl ?_); refine goesL_ (some 50) rfl rfl Try.func8 (by kernel_rfl) rfl #[.slice A1 l1.length c1, .int .i64 2, .int .i64 12] rfl (by (try simp only [List.map_toArray, List.map_cons, List.map_nil]); first | done | rfl | (simp only [List.length_drop, List.length_take]; rfl)) ?_; (with_reducible refine (laws_r8At.calls _ _ l1 2 12 t303 _ ?side1 ?side2 A9.out).mono ?_); (case side1 => repeat (first | exact (Kd.C_below HR1.out (by repeat (first | (with_reducible first | exact HB.out | apply below_alloc | apply pw_below_drewN | apply below_drew1 | refine below_set ?_ GE298.out) | exact HB.out))) | (with_reducible refine Kd.C_alloc ?_ _) | (with_reducible refine Kd.C_drewN ?_ _) | (with_reducible refine Kd.C_drew ?_))); (case side2 => exact HC1.out); rintro e w' ⟨rfl, ⟨nd, rfl⟩⟩; refine ⟨_, rfl, ?_⟩; have hcz18_0 : w17.cell? ⟨gb298, 0, none⟩ = some (.string t291) := (blk_cell BK298.out 0).trans rfl; have hcz18_1 : w17.cell? ⟨gb298, 1, none⟩ = some (.slice Ao15 t292.length co15) := (blk_cell BK298.out 1).trans rfl; have hcz18_2 : w17.cell? ⟨gb298, 2, none⟩ = some (.slice Ao16 t295.length co16) := (blk_cell BK298.out 2).trans rfl; have hfz18_0 := blk_frozen BK298.out 0; have hfz18_1 := blk_frozen BK298.out 1; have hfz18_2 := blk_frozen BK298.out 2) | ((with_reducible refine gate_callee (f := 9) rfl ?_); refine goesL_ (some 56) rfl rfl Try.func9 (by kernel_rfl) rfl #[.agg #[.string t291, .slice Ao15 t292.length co15, .slice Ao16 t295.length co16], .int .i64 (wrap64 (1 + t301)), .int .i64 (wrap64 (1 + t302)), .int .i64 t303] rfl (by (try simp only [List.map_toArray, List.map_cons, List.map_nil]); first | done | rfl | (simp only [List.length_drop, List.length_take]; rfl)) ?_; (with_reducible refine (impl_CadenceStart.calls k t291 _ _ t292 _ _ t295 (wrap64 (1 + t301)) (wrap64 (1 + t302)) t303 t304 t305 _ ?side1 ?side2 ?side3 ?side4 A10.out).mono ?_); (case side1 => repeat (first | exact (Kd.R_reads' HO294.out).2.2 | (with_reducible refine Kd.C_alloc ?_ _) | (with_reducible refine Kd.C_drewN ?_ _) | (with_reducible refine Kd.C_drew ?_))); (case side2 => exact (Kd.R_reads' HO294.out).2.1); (case side3 => repeat (first | exact (Kd.R_reads' HO297.out).2.2 | (with_reducible refine Kd.C_alloc ?_ _) | (with_reducible refine Kd.C_drewN ?_ _) | (with_reducible refine Kd.C_drew ?_))); (case side4 => exact (Kd.R_reads' HO297.out).2.1); rintro e w19 ⟨rfl, hb⟩; refine ⟨_, rfl, ?_⟩; have n0_ := Aside0.mk (Kd.R_below (by (with_reducible repeat (first | apply Kd.R_alloc | apply Kd.R_drewN | apply Kd.R_drew)); exact HO294.out) hb); have n1_ := Aside0.mk (Kd.R_below (by (with_reducible repeat (first | apply Kd.R_alloc | apply Kd.R_drewN | apply Kd.R_drew)); exact HO297.out) hb); have n2_ := Aside0.mk (blk_below (g := gb298) (o := .cells #[.string t291, .slice Ao15 t292.length co15, .slice Ao16 t295.length co16] 26 (0, 0)) (by (with_reducible repeat (first | refine blk_drewN ?_ _ | refine blk_drew ?_ | refine blk_alloc ?_ _)); exact BK298.out) hb); have n3_ := Aside0.mk (below_step (by repeat (first | (with_reducible first | exact HB.out | apply below_alloc | apply pw_below_drewN | apply below_drew1 | refine below_set ?_ GE298.out) | exact HB.out)) hb); clear HO294; clear HO297; clear BK298; clear HB; have HO294 := n0_; have HO297 := n1_; have BK298 := n2_; have HB := n3_; clear n0_ n1_ n2_ n3_; (try clear hb); (try clear hb2); (try clear hk); (try clear hi)))
  (try simp only [Act.put, s0_, s1_, s2_])
  go_cut [90] (fun v90 wc => ∃ (kq : Nat) (x90_10 : Bool), v90 = .bool x90_10 ∧ Aside0 (laws_FnCadences.j0 kq (wrap64 (1 + t301)) (wrap64 (t299 * (wrap64 (1 + t301)))) (wrap64 (1 + t302)) t303 t304 x90_10 t291 t292 t295 = some r) ∧ Aside0 (kq ≤ k) ∧ Aside0 (Kd.R (Kd.int .i64) 2 wc w.heap.size (fun k_ => some k_ ≠ ((.slice Ao16 t295.length co16) : Value).ownBlock) (.slice Ao15 t292.length co15) t292) ∧ Aside0 (Kd.R (Kd.int .i64) 2 wc w.heap.size (fun k_ => some k_ ≠ ((.slice Ao15 t292.length co15) : Value).ownBlock) (.slice Ao16 t295.length co16) t295) ∧ Aside0 (wc.heap[gb298]? = some (.cells #[.string t291, (.slice Ao15 t292.length co15), (.slice Ao16 t295.length co16)] 26 (0, 0))) ∧ Aside0 (Below w.heap.size w wc))
  case first =>
   have H := HC11.out
   clear HC11
   by_cases c20 : t305 = 0
   rotate_left
   ·rw [if_neg c20] at H
    cases H
   rw [if_pos c20] at H
   have c20b0 : (t305 == 0) = true := beq_iff_eq.mpr c20
   have c20b1 : (t305 != 0) = false := bne_eq_false_iff_eq.mpr c20
   clear c20
   (first | rw [c20b0] | (simp only [i64_w, i32_w]; rw [c20b0]) | skip)
   by_cases c21 : t304 < 0
   rotate_left
   ·rw [if_neg c21] at H
    have c21b0 : decide (t304 < 0) = false := decide_eq_false c21
    clear c21
    by_cases c22 : t304 ≥ (wrap64 (t299 * (wrap64 (1 + t301))))
    rotate_left
    ·rw [if_neg c22] at H
     have c22b0 : decide ((wrap64 (t299 * (wrap64 (1 + t301)))) ≤ t304) = false := decide_eq_false c22
     clear c22
     replace H := Option.bind_eq_some_iff.mp H
     obtain ⟨t306, A230, H⟩ := H
     replace H : (if t306 = true then ((impl_EndsOnSam.f k t291 t292 t295 (wrap64 (1 + t301)) t304 (wrap64 ((wrap64 (3 * (wrap64 (1 + t302)))) + (wrap64 (2 * t303))))).bind fun t307 => (laws_FnCadences.j0 k (wrap64 (1 + t301)) (wrap64 (t299 * (wrap64 (1 + t301)))) (wrap64 (1 + t302)) t303 t304 (!t307) t291 t292 t295)) else (none)) = some r := H
     have A23 := Aside0.mk A230
     clear A230
     by_cases c24 : t306 = true
     rotate_left
     ·replace c24 := Bool.eq_false_iff.mpr c24
      subst c24
      rw [if_neg (show ¬ (false = true) by decide)] at H
      cases H
     subst c24
     have H1 : ((impl_EndsOnSam.f k t291 t292 t295 (wrap64 (1 + t301)) t304 (wrap64 ((wrap64 (3 * (wrap64 (1 + t302)))) + (wrap64 (2 * t303))))).bind fun t307 => (laws_FnCadences.j0 k (wrap64 (1 + t301)) (wrap64 (t299 * (wrap64 (1 + t301)))) (wrap64 (1 + t302)) t303 t304 (!t307) t291 t292 t295)) = some r := by rw [if_pos rfl] at H; exact H
     clear H
     have H := H1
     clear H1
     replace H := Option.bind_eq_some_iff.mp H
     obtain ⟨t307, A250, H⟩ := H
     replace H : (laws_FnCadences.j0 k (wrap64 (1 + t301)) (wrap64 (t299 * (wrap64 (1 + t301)))) (wrap64 (1 + t302)) t303 t304 (!t307) t291 t292 t295) = some r := H
     have A25 := Aside0.mk A250
     clear A250
     have H' := Aside0.mk H
     clear H
     have hcz26_0 : w19.cell? ⟨gb298, 0, none⟩ = some (.string t291) := (blk_cell BK298.out 0).trans rfl
     have hcz26_1 : w19.cell? ⟨gb298, 1, none⟩ = some (.slice Ao15 t292.length co15) := (blk_cell BK298.out 1).trans rfl
     have hcz26_2 : w19.cell? ⟨gb298, 2, none⟩ = some (.slice Ao16 t295.length co16) := (blk_cell BK298.out 2).trans rfl
     have hfz26_0 := blk_frozen BK298.out 0
     have hfz26_1 := blk_frozen BK298.out 1
     have hfz26_2 := blk_frozen BK298.out 2
     go_wp2_with (first | (go_at_call 10; (with_reducible refine (impl_IsCadence.calls k t291 _ _ t292 _ _ t295 (wrap64 (1 + t301)) t304 (wrap64 (1 + t302)) t303 true _ ?side1 ?side2 ?side3 ?side4 A23.out).mono ?_); (case side1 => repeat (first | exact (Kd.R_reads' HO294.out).2.2 | (with_reducible refine Kd.C_alloc ?_ _) | (with_reducible refine Kd.C_drewN ?_ _) | (with_reducible refine Kd.C_drew ?_))); (case side2 => exact (Kd.R_reads' HO294.out).2.1); (case side3 => repeat (first | exact (Kd.R_reads' HO297.out).2.2 | (with_reducible refine Kd.C_alloc ?_ _) | (with_reducible refine Kd.C_drewN ?_ _) | (with_reducible refine Kd.C_drew ?_))); (case side4 => exact (Kd.R_reads' HO297.out).2.1); rintro e w27 ⟨rfl, hb⟩; have n0_ := Aside0.mk (Kd.R_below (by (with_reducible repeat (first | apply Kd.R_alloc | apply Kd.R_drewN | apply Kd.R_drew)); exact HO294.out) hb); have n1_ := Aside0.mk (Kd.R_below (by (with_reducible repeat (first | apply Kd.R_alloc | apply Kd.R_drewN | apply Kd.R_drew)); exact HO297.out) hb); have n2_ := Aside0.mk (blk_below (g := gb298) (o := .cells #[.string t291, .slice Ao15 t292.length co15, .slice Ao16 t295.length co16] 26 (0, 0)) (by (with_reducible repeat (first | refine blk_drewN ?_ _ | refine blk_drew ?_ | refine blk_alloc ?_ _)); exact BK298.out) hb); have n3_ := Aside0.mk (below_step (by repeat (first | (with_reducible first | exact HB.out | apply below_alloc | apply pw_below_drewN | apply below_drew1 | refine below_set ?_ GE298.out) | exact HB.out)) hb); clear HO294; clear HO297; clear BK298; clear HB; have HO294 := n0_; have HO297 := n1_; have BK298 := n2_; have HB := n3_; clear n0_ n1_ n2_ n3_; (try clear hb); (try clear hb2); (try clear hk); (try clear hi); have hcz28_0 : w27.cell? ⟨gb298, 0, none⟩ = some (.string t291) := (blk_cell BK298.out 0).trans rfl; have hcz28_1 : w27.cell? ⟨gb298, 1, none⟩ = some (.slice Ao15 t292.length co15) := (blk_cell BK298.out 1).trans rfl; have hcz28_2 : w27.cell? ⟨gb298, 2, none⟩ = some (.slice Ao16 t295.length co16) := (blk_cell BK298.out 2).trans rfl; have hfz28_0 := blk_frozen BK298.out 0; have hfz28_1 := blk_frozen BK298.out 1; have hfz28_2 := blk_frozen BK298.out 2) | (go_at_call 11; (with_reducible refine (impl_EndsOnSam.calls k t291 _ _ t292 _ _ t295 (wrap64 (1 + t301)) t304 (wrap64 ((wrap64 (3 * (wrap64 (1 + t302)))) + (wrap64 (2 * t303)))) t307 _ ?side1 ?side2 ?side3 ?side4 A25.out).mono ?_); (case side1 => repeat (first | exact (Kd.R_reads' HO294.out).2.2 | (with_reducible refine Kd.C_alloc ?_ _) | (with_reducible refine Kd.C_drewN ?_ _) | (with_reducible refine Kd.C_drew ?_))); (case side2 => exact (Kd.R_reads' HO294.out).2.1); (case side3 => repeat (first | exact (Kd.R_reads' HO297.out).2.2 | (with_reducible refine Kd.C_alloc ?_ _) | (with_reducible refine Kd.C_drewN ?_ _) | (with_reducible refine Kd.C_drew ?_))); (case side4 => exact (Kd.R_reads' HO297.out).2.1); rintro e w29 ⟨rfl, hb⟩; have n0_ := Aside0.mk (Kd.R_below (by (with_reducible repeat (first | apply Kd.R_alloc | apply Kd.R_drewN | apply Kd.R_drew)); exact HO294.out) hb); have n1_ := Aside0.mk (Kd.R_below (by (with_reducible repeat (first | apply Kd.R_alloc | apply Kd.R_drewN | apply Kd.R_drew)); exact HO297.out) hb); have n2_ := Aside0.mk (blk_below (g := gb298) (o := .cells #[.string t291, .slice Ao15 t292.length co15, .slice Ao16 t295.length co16] 26 (0, 0)) (by (with_reducible repeat (first | refine blk_drewN ?_ _ | refine blk_drew ?_ | refine blk_alloc ?_ _)); exact BK298.out) hb); have n3_ := Aside0.mk (below_step (by repeat (first | (with_reducible first | exact HB.out | apply below_alloc | apply pw_below_drewN | apply below_drew1 | refine below_set ?_ GE298.out) | exact HB.out)) hb); clear HO294; clear HO297; clear BK298; clear HB; have HO294 := n0_; have HO297 := n1_; have BK298 := n2_; have HB := n3_; clear n0_ n1_ n2_ n3_; (try clear hb); (try clear hb2); (try clear hk); (try clear hi)))
     go_meet
     case rel => exact ⟨_, (!t307), (by first | rfl | (simp; done) | (simp [*]; done)), H', ⟨by first | omega | exact Nat.le_refl _⟩, ⟨by (with_reducible repeat (first | apply Kd.R_alloc | apply Kd.R_drewN | apply Kd.R_drew)); exact HO294.out⟩, ⟨by (with_reducible repeat (first | apply Kd.R_alloc | apply Kd.R_drewN | apply Kd.R_drew)); exact HO297.out⟩, ⟨by (with_reducible repeat (first | refine blk_drewN ?_ _ | refine blk_drew ?_ | refine blk_alloc ?_ _)); exact BK298.out⟩, ⟨by repeat (first | (with_reducible first | exact HB.out | apply below_alloc | apply pw_below_drewN | apply below_drew1 | refine below_set ?_ GE298.out) | exact HB.out)⟩⟩
    rw [if_pos c22] at H
    cases H
   rw [if_pos c21] at H
   cases H
  case rest => as_aux_lemma =>
   clear HC11
   try clear c1
   try clear c2
   try clear p2
   try clear c3
   try clear c4
   try clear c5
   try clear c6
   try clear p6
   try clear c7
   try clear c8
   try clear c9
   try clear c20
   try clear c20b0
   try clear c20b1
   try clear c21
   try clear c21b0
   try clear c22
   try clear c22b0
   try clear c24
   try clear hcz14_0
   try clear hcz14_1
   try clear hcz14_2
   try clear hcz18_0
   try clear hcz18_1
   try clear hcz18_2
   try clear hcz26_0
   try clear hcz26_1
   try clear hcz26_2
   try clear hcz28_0
   try clear hcz28_1
   try clear hcz28_2
   try clear hcz30_0
   try clear hcz30_1
   try clear hcz30_2
   try clear hfz14_0
   try clear hfz14_1
   try clear hfz14_2
   try clear hfz18_0
   try clear hfz18_1
   try clear hfz18_2
   try clear hfz26_0
   try clear hfz26_1
   try clear hfz26_2
   try clear hfz28_0
   try clear hfz28_1
   try clear hfz28_2
   try clear hfz30_0
   try clear hfz30_1
   try clear hfz30_2
   obtain ⟨kq, x90_10, rfl, HA, HJ10, HO_299001, HO_299002, BK298, HB⟩ := hcut
   cases kq with
   | zero => exact absurd HA.out (by simp [laws_FnCadences.j0])
   | succ kj10 =>
    have H := HA.out
    clear HA
    simp only [laws_FnCadences.j0] at H
    by_cases c32 : x90_10 = true
    rotate_left
    ·replace c32 := Bool.eq_false_iff.mpr c32
     subst c32
     have H1 : (laws_FnCadences.l0 kj10 (wrap64 (1 + t301)) (wrap64 (t299 * (wrap64 (1 + t301)))) (wrap64 (1 + t302)) t303 t304 0 t291 t292 t295) = some r := by rw [if_neg (show ¬ (false = true) by decide)] at H; exact H
     clear H
     have H := H1
     clear H1
     have H' := Aside0.mk H
     clear H
     go_wp2
     go_loopg [14] kj10 (fun kq v14 w' => ∃ (x14_2 : Int), v14 = .int .i64 x14_2 ∧ Aside0 (laws_FnCadences.l0 kq (wrap64 (1 + t301)) (wrap64 (t299 * (wrap64 (1 + t301)))) (wrap64 (1 + t302)) t303 t304 x14_2 t291 t292 t295 = some r) ∧ Aside0 (kq ≤ kj10) ∧ Aside0 (Kd.R (Kd.int .i64) 2 w' w.heap.size (fun k_ => some k_ ≠ ((.slice Ao16 t295.length co16) : Value).ownBlock) (.slice Ao15 t292.length co15) t292) ∧ Aside0 (Kd.R (Kd.int .i64) 2 w' w.heap.size (fun k_ => some k_ ≠ ((.slice Ao15 t292.length co15) : Value).ownBlock) (.slice Ao16 t295.length co16) t295) ∧ Aside0 (w'.heap[gb298]? = some (.cells #[.string t291, (.slice Ao15 t292.length co15), (.slice Ao16 t295.length co16)] 26 (0, 0))) ∧ Aside0 (Below w.heap.size w w'))
     case atStart => exact ⟨(0), (by first | rfl | (simp; done) | (simp [*]; done)), H', ⟨Nat.le_refl _⟩, ⟨by (with_reducible repeat (first | apply Kd.R_alloc | apply Kd.R_drewN | apply Kd.R_drew)); exact HO_299001.out⟩, ⟨by (with_reducible repeat (first | apply Kd.R_alloc | apply Kd.R_drewN | apply Kd.R_drew)); exact HO_299002.out⟩, ⟨by (with_reducible repeat (first | refine blk_drewN ?_ _ | refine blk_drew ?_ | refine blk_alloc ?_ _)); exact BK298.out⟩, ⟨by repeat (first | (with_reducible first | exact HB.out | apply below_alloc | apply pw_below_drewN | apply below_drew1 | refine below_set ?_ GE298.out) | exact HB.out)⟩⟩
     case round => as_aux_lemma =>
      clear H'
      try clear c1
      try clear c2
      try clear p2
      try clear c3
      try clear c4
      try clear c5
      try clear c6
      try clear p6
      try clear c7
      try clear c8
      try clear c9
      try clear c20
      try clear c20b0
      try clear c20b1
      try clear c21
      try clear c21b0
      try clear c22
      try clear c22b0
      try clear c24
      try clear c32
      try clear hcz14_0
      try clear hcz14_1
      try clear hcz14_2
      try clear hcz18_0
      try clear hcz18_1
      try clear hcz18_2
      try clear hcz26_0
      try clear hcz26_1
      try clear hcz26_2
      try clear hcz28_0
      try clear hcz28_1
      try clear hcz28_2
      try clear hcz30_0
      try clear hcz30_1
      try clear hcz30_2
      try clear hfz14_0
      try clear hfz14_1
      try clear hfz14_2
      try clear hfz18_0
      try clear hfz18_1
      try clear hfz18_2
      try clear hfz26_0
      try clear hfz26_1
      try clear hfz26_2
      try clear hfz28_0
      try clear hfz28_1
      try clear hfz28_2
      try clear hfz30_0
      try clear hfz30_1
      try clear hfz30_2
      try clear p2
      try clear p6
      obtain ⟨x14_2, rfl, HA, HK2, HO_299001, HO_299002, BK298, HB⟩ := hrel
      cases gk with
      | zero => exact absurd HA.out (by simp [laws_FnCadences.l0])
      | succ k2 =>
       have H := HA.out
       clear HA
       simp only [laws_FnCadences.l0] at H
       by_cases c33 : x14_2 < (wrap64 (t299 * (wrap64 (1 + t301))))
       rotate_left
       ·rw [if_neg c33] at H
        have c33b0 : decide (x14_2 < (wrap64 (t299 * (wrap64 (1 + t301))))) = false := decide_eq_false c33
        clear c33
        replace H := Option.bind_eq_some_iff.mp H
        obtain ⟨⟨t309, t310⟩, A410, H⟩ := H
        replace H : ((impl_PhraseFor.f k2 t291 t292 t295 (wrap64 (1 + t301)) t304 t303).bind fun bt311 => ((impl_PlacesOf.f k2 t291 t292 t295 (wrap64 (1 + t301)) t304 (wrap64 (1 + t302)) t303).bind fun bt313 => ((impl_SamsPassed.f k2 t291 t292 t295 (wrap64 (1 + t301)) t304 (wrap64 (1 + t302)) t303).bind fun bt317 => (if t310 = 0 then (if t309 > t303 then (none) else ((spec_IsCadence.f k2 t291 t292 t295 (wrap64 (1 + t301)) t304 (wrap64 (1 + t302)) t309).bind fun t319 => (if t319 = true then (if bt311.2 = 0 then (if bt311.1 > (wrap64 (1 + t302)) then (none) else ((spec_IsCadence.f k2 t291 t292 t295 (wrap64 (1 + t301)) t304 bt311.1 t303).bind fun t320 => (if t320 = true then (if bt313.2 = 0 then (if (bt313.1.length : Int) = 4 then (if bt317.2 = 0 then (if 0 < (bt313.1.length : Int) then (if (rd bt313.1 0) = t304 then (if 3 < (bt313.1.length : Int) then (if (rd bt313.1 3) = (wrap64 (bt317.1 * (wrap64 (t299 * (wrap64 (1 + t301)))))) then (if 1 < (bt313.1.length : Int) then (if (wrap64 ((rd bt313.1 1) - (rd bt313.1 0))) = (wrap64 ((wrap64 (1 + t302)) + t303)) then (if 2 < (bt313.1.length : Int) then (if (wrap64 ((rd bt313.1 2) - (rd bt313.1 1))) = (wrap64 ((wrap64 (1 + t302)) + t303)) then (laws_FnCadences.j2 k2 (wrap64 (1 + t301)) (wrap64 (t299 * (wrap64 (1 + t301)))) ((wrap64 ((rd bt313.1 3) - (rd bt313.1 2))) != (wrap64 ((wrap64 (1 + t302)) - 1))) t291 t292 t295) else (none)) else (none)) else (none)) else (none)) else (none)) else (none)) else (none)) else (none)) else (none)) else (none)) else (none)) else (none)))) else (none)) else (none)))) else (none))))) = some r := H
        have A41 := Aside0.mk A410
        clear A410
        replace H := Option.bind_eq_some_iff.mp H
        obtain ⟨⟨t311, t312⟩, A420, H⟩ := H
        replace H : ((impl_PlacesOf.f k2 t291 t292 t295 (wrap64 (1 + t301)) t304 (wrap64 (1 + t302)) t303).bind fun bt313 => ((impl_SamsPassed.f k2 t291 t292 t295 (wrap64 (1 + t301)) t304 (wrap64 (1 + t302)) t303).bind fun bt317 => (if t310 = 0 then (if t309 > t303 then (none) else ((spec_IsCadence.f k2 t291 t292 t295 (wrap64 (1 + t301)) t304 (wrap64 (1 + t302)) t309).bind fun t319 => (if t319 = true then (if t312 = 0 then (if t311 > (wrap64 (1 + t302)) then (none) else ((spec_IsCadence.f k2 t291 t292 t295 (wrap64 (1 + t301)) t304 t311 t303).bind fun t320 => (if t320 = true then (if bt313.2 = 0 then (if (bt313.1.length : Int) = 4 then (if bt317.2 = 0 then (if 0 < (bt313.1.length : Int) then (if (rd bt313.1 0) = t304 then (if 3 < (bt313.1.length : Int) then (if (rd bt313.1 3) = (wrap64 (bt317.1 * (wrap64 (t299 * (wrap64 (1 + t301)))))) then (if 1 < (bt313.1.length : Int) then (if (wrap64 ((rd bt313.1 1) - (rd bt313.1 0))) = (wrap64 ((wrap64 (1 + t302)) + t303)) then (if 2 < (bt313.1.length : Int) then (if (wrap64 ((rd bt313.1 2) - (rd bt313.1 1))) = (wrap64 ((wrap64 (1 + t302)) + t303)) then (laws_FnCadences.j2 k2 (wrap64 (1 + t301)) (wrap64 (t299 * (wrap64 (1 + t301)))) ((wrap64 ((rd bt313.1 3) - (rd bt313.1 2))) != (wrap64 ((wrap64 (1 + t302)) - 1))) t291 t292 t295) else (none)) else (none)) else (none)) else (none)) else (none)) else (none)) else (none)) else (none)) else (none)) else (none)) else (none)) else (none)))) else (none)) else (none)))) else (none)))) = some r := H
        have A42 := Aside0.mk A420
        clear A420
        replace H := Option.bind_eq_some_iff.mp H
        obtain ⟨⟨t313, t316⟩, A430, H⟩ := H
        replace H : ((impl_SamsPassed.f k2 t291 t292 t295 (wrap64 (1 + t301)) t304 (wrap64 (1 + t302)) t303).bind fun bt317 => (if t310 = 0 then (if t309 > t303 then (none) else ((spec_IsCadence.f k2 t291 t292 t295 (wrap64 (1 + t301)) t304 (wrap64 (1 + t302)) t309).bind fun t319 => (if t319 = true then (if t312 = 0 then (if t311 > (wrap64 (1 + t302)) then (none) else ((spec_IsCadence.f k2 t291 t292 t295 (wrap64 (1 + t301)) t304 t311 t303).bind fun t320 => (if t320 = true then (if t316 = 0 then (if (t313.length : Int) = 4 then (if bt317.2 = 0 then (if 0 < (t313.length : Int) then (if (rd t313 0) = t304 then (if 3 < (t313.length : Int) then (if (rd t313 3) = (wrap64 (bt317.1 * (wrap64 (t299 * (wrap64 (1 + t301)))))) then (if 1 < (t313.length : Int) then (if (wrap64 ((rd t313 1) - (rd t313 0))) = (wrap64 ((wrap64 (1 + t302)) + t303)) then (if 2 < (t313.length : Int) then (if (wrap64 ((rd t313 2) - (rd t313 1))) = (wrap64 ((wrap64 (1 + t302)) + t303)) then (laws_FnCadences.j2 k2 (wrap64 (1 + t301)) (wrap64 (t299 * (wrap64 (1 + t301)))) ((wrap64 ((rd t313 3) - (rd t313 2))) != (wrap64 ((wrap64 (1 + t302)) - 1))) t291 t292 t295) else (none)) else (none)) else (none)) else (none)) else (none)) else (none)) else (none)) else (none)) else (none)) else (none)) else (none)) else (none)))) else (none)) else (none)))) else (none))) = some r := H
        have A43 := Aside0.mk A430
        clear A430
        replace H := Option.bind_eq_some_iff.mp H
        obtain ⟨⟨t317, t318⟩, A440, H⟩ := H
        replace H : (if t310 = 0 then (if t309 > t303 then (none) else ((spec_IsCadence.f k2 t291 t292 t295 (wrap64 (1 + t301)) t304 (wrap64 (1 + t302)) t309).bind fun t319 => (if t319 = true then (if t312 = 0 then (if t311 > (wrap64 (1 + t302)) then (none) else ((spec_IsCadence.f k2 t291 t292 t295 (wrap64 (1 + t301)) t304 t311 t303).bind fun t320 => (if t320 = true then (if t316 = 0 then (if (t313.length : Int) = 4 then (if t318 = 0 then (if 0 < (t313.length : Int) then (if (rd t313 0) = t304 then (if 3 < (t313.length : Int) then (if (rd t313 3) = (wrap64 (t317 * (wrap64 (t299 * (wrap64 (1 + t301)))))) then (if 1 < (t313.length : Int) then (if (wrap64 ((rd t313 1) - (rd t313 0))) = (wrap64 ((wrap64 (1 + t302)) + t303)) then (if 2 < (t313.length : Int) then (if (wrap64 ((rd t313 2) - (rd t313 1))) = (wrap64 ((wrap64 (1 + t302)) + t303)) then (laws_FnCadences.j2 k2 (wrap64 (1 + t301)) (wrap64 (t299 * (wrap64 (1 + t301)))) ((wrap64 ((rd t313 3) - (rd t313 2))) != (wrap64 ((wrap64 (1 + t302)) - 1))) t291 t292 t295) else (none)) else (none)) else (none)) else (none)) else (none)) else (none)) else (none)) else (none)) else (none)) else (none)) else (none)) else (none)))) else (none)) else (none)))) else (none)) = some r := H
        have A44 := Aside0.mk A440
        clear A440
        have HC45 := Aside0.mk H
        clear H
        have hcz46_0 : wr.cell? ⟨gb298, 0, none⟩ = some (.string t291) := (blk_cell BK298.out 0).trans rfl
        have hcz46_1 : wr.cell? ⟨gb298, 1, none⟩ = some (.slice Ao15 t292.length co15) := (blk_cell BK298.out 1).trans rfl
        have hcz46_2 : wr.cell? ⟨gb298, 2, none⟩ = some (.slice Ao16 t295.length co16) := (blk_cell BK298.out 2).trans rfl
        have hfz46_0 := blk_frozen BK298.out 0
        have hfz46_1 := blk_frozen BK298.out 1
        have hfz46_2 := blk_frozen BK298.out 2
        go_upto_region 21 with (first | ((with_reducible refine gate_callee (f := 12) rfl ?_); refine goesL_ (some 112) rfl rfl Try.func12 (by kernel_rfl) rfl #[.agg #[.string t291, .slice Ao15 t292.length co15, .slice Ao16 t295.length co16], .int .i64 (wrap64 (1 + t301)), .int .i64 t304, .int .i64 (wrap64 (1 + t302))] rfl (by (try simp only [List.map_toArray, List.map_cons, List.map_nil]); first | done | rfl | (simp only [List.length_drop, List.length_take]; rfl)) ?_; (with_reducible refine (impl_GapFor.calls k2 t291 _ _ t292 _ _ t295 (wrap64 (1 + t301)) t304 (wrap64 (1 + t302)) t309 t310 _ ?side1 ?side2 ?side3 ?side4 A41.out).mono ?_); (case side1 => repeat (first | exact (Kd.R_reads' HO_299001.out).2.2 | (with_reducible refine Kd.C_alloc ?_ _) | (with_reducible refine Kd.C_drewN ?_ _) | (with_reducible refine Kd.C_drew ?_))); (case side2 => exact (Kd.R_reads' HO_299001.out).2.1); (case side3 => repeat (first | exact (Kd.R_reads' HO_299002.out).2.2 | (with_reducible refine Kd.C_alloc ?_ _) | (with_reducible refine Kd.C_drewN ?_ _) | (with_reducible refine Kd.C_drew ?_))); (case side4 => exact (Kd.R_reads' HO_299002.out).2.1); rintro e w47 ⟨rfl, hb⟩; refine ⟨_, rfl, ?_⟩; have n0_ := Aside0.mk (Kd.R_below (by (with_reducible repeat (first | apply Kd.R_alloc | apply Kd.R_drewN | apply Kd.R_drew)); exact HO_299001.out) hb); have n1_ := Aside0.mk (Kd.R_below (by (with_reducible repeat (first | apply Kd.R_alloc | apply Kd.R_drewN | apply Kd.R_drew)); exact HO_299002.out) hb); have n2_ := Aside0.mk (blk_below (g := gb298) (o := .cells #[.string t291, .slice Ao15 t292.length co15, .slice Ao16 t295.length co16] 26 (0, 0)) (by (with_reducible repeat (first | refine blk_drewN ?_ _ | refine blk_drew ?_ | refine blk_alloc ?_ _)); exact BK298.out) hb); have n3_ := Aside0.mk (below_step (by repeat (first | (with_reducible first | exact HB.out | apply below_alloc | apply pw_below_drewN | apply below_drew1 | refine below_set ?_ GE298.out) | exact HB.out)) hb); clear HO_299001; clear HO_299002; clear BK298; clear HB; have HO_299001 := n0_; have HO_299002 := n1_; have BK298 := n2_; have HB := n3_; clear n0_ n1_ n2_ n3_; (try clear hb); (try clear hb2); (try clear hk); (try clear hi); have hcz48_0 : w47.cell? ⟨gb298, 0, none⟩ = some (.string t291) := (blk_cell BK298.out 0).trans rfl; have hcz48_1 : w47.cell? ⟨gb298, 1, none⟩ = some (.slice Ao15 t292.length co15) := (blk_cell BK298.out 1).trans rfl; have hcz48_2 : w47.cell? ⟨gb298, 2, none⟩ = some (.slice Ao16 t295.length co16) := (blk_cell BK298.out 2).trans rfl; have hfz48_0 := blk_frozen BK298.out 0; have hfz48_1 := blk_frozen BK298.out 1; have hfz48_2 := blk_frozen BK298.out 2) | ((with_reducible refine gate_callee (f := 13) rfl ?_); refine goesL_ (some 120) rfl rfl Try.func13 (by kernel_rfl) rfl #[.agg #[.string t291, .slice Ao15 t292.length co15, .slice Ao16 t295.length co16], .int .i64 (wrap64 (1 + t301)), .int .i64 t304, .int .i64 t303] rfl (by (try simp only [List.map_toArray, List.map_cons, List.map_nil]); first | done | rfl | (simp only [List.length_drop, List.length_take]; rfl)) ?_; (with_reducible refine (impl_PhraseFor.calls k2 t291 _ _ t292 _ _ t295 (wrap64 (1 + t301)) t304 t303 t311 t312 _ ?side1 ?side2 ?side3 ?side4 A42.out).mono ?_); (case side1 => repeat (first | exact (Kd.R_reads' HO_299001.out).2.2 | (with_reducible refine Kd.C_alloc ?_ _) | (with_reducible refine Kd.C_drewN ?_ _) | (with_reducible refine Kd.C_drew ?_))); (case side2 => exact (Kd.R_reads' HO_299001.out).2.1); (case side3 => repeat (first | exact (Kd.R_reads' HO_299002.out).2.2 | (with_reducible refine Kd.C_alloc ?_ _) | (with_reducible refine Kd.C_drewN ?_ _) | (with_reducible refine Kd.C_drew ?_))); (case side4 => exact (Kd.R_reads' HO_299002.out).2.1); rintro e w49 ⟨rfl, hb⟩; refine ⟨_, rfl, ?_⟩; have n0_ := Aside0.mk (Kd.R_below (by (with_reducible repeat (first | apply Kd.R_alloc | apply Kd.R_drewN | apply Kd.R_drew)); exact HO_299001.out) hb); have n1_ := Aside0.mk (Kd.R_below (by (with_reducible repeat (first | apply Kd.R_alloc | apply Kd.R_drewN | apply Kd.R_drew)); exact HO_299002.out) hb); have n2_ := Aside0.mk (blk_below (g := gb298) (o := .cells #[.string t291, .slice Ao15 t292.length co15, .slice Ao16 t295.length co16] 26 (0, 0)) (by (with_reducible repeat (first | refine blk_drewN ?_ _ | refine blk_drew ?_ | refine blk_alloc ?_ _)); exact BK298.out) hb); have n3_ := Aside0.mk (below_step (by repeat (first | (with_reducible first | exact HB.out | apply below_alloc | apply pw_below_drewN | apply below_drew1 | refine below_set ?_ GE298.out) | exact HB.out)) hb); clear HO_299001; clear HO_299002; clear BK298; clear HB; have HO_299001 := n0_; have HO_299002 := n1_; have BK298 := n2_; have HB := n3_; clear n0_ n1_ n2_ n3_; (try clear hb); (try clear hb2); (try clear hk); (try clear hi); have hcz50_0 : w49.cell? ⟨gb298, 0, none⟩ = some (.string t291) := (blk_cell BK298.out 0).trans rfl; have hcz50_1 : w49.cell? ⟨gb298, 1, none⟩ = some (.slice Ao15 t292.length co15) := (blk_cell BK298.out 1).trans rfl; have hcz50_2 : w49.cell? ⟨gb298, 2, none⟩ = some (.slice Ao16 t295.length co16) := (blk_cell BK298.out 2).trans rfl; have hfz50_0 := blk_frozen BK298.out 0; have hfz50_1 := blk_frozen BK298.out 1; have hfz50_2 := blk_frozen BK298.out 2) | ((with_reducible refine gate_callee (f := 14) rfl ?_); refine goesL_ (some 129) rfl rfl Try.func14 (by kernel_rfl) rfl #[.agg #[.string t291, .slice Ao15 t292.length co15, .slice Ao16 t295.length co16], .int .i64 (wrap64 (1 + t301)), .int .i64 t304, .int .i64 (wrap64 (1 + t302)), .int .i64 t303] rfl (by (try simp only [List.map_toArray, List.map_cons, List.map_nil]); first | done | rfl | (simp only [List.length_drop, List.length_take]; rfl)) ?_; (with_reducible refine (impl_PlacesOf.calls k2 t291 _ _ t292 _ _ t295 (wrap64 (1 + t301)) t304 (wrap64 (1 + t302)) t303 t313 t316 _ ?side1 ?side2 ?side3 ?side4 A43.out).mono ?_); (case side1 => repeat (first | exact (Kd.R_reads' HO_299001.out).2.2 | (with_reducible refine Kd.C_alloc ?_ _) | (with_reducible refine Kd.C_drewN ?_ _) | (with_reducible refine Kd.C_drew ?_))); (case side2 => exact (Kd.R_reads' HO_299001.out).2.1); (case side3 => repeat (first | exact (Kd.R_reads' HO_299002.out).2.2 | (with_reducible refine Kd.C_alloc ?_ _) | (with_reducible refine Kd.C_drewN ?_ _) | (with_reducible refine Kd.C_drew ?_))); (case side4 => exact (Kd.R_reads' HO_299002.out).2.1); rintro e w51 ⟨v314, rfl, ho0, hb⟩; refine ⟨_, rfl, ?_⟩; have n0_ := Aside0.mk (Kd.R_elder' (by (with_reducible repeat (first | apply Kd.R_alloc | apply Kd.R_drewN | apply Kd.R_drew)); exact HO_299001.out) (Kd.R_base ho0) hb); have n1_ := Aside0.mk (Kd.R_elder' (by (with_reducible repeat (first | apply Kd.R_alloc | apply Kd.R_drewN | apply Kd.R_drew)); exact HO_299002.out) (Kd.R_base ho0) hb); have n2_ := Aside0.mk (Kd.R_lower (Kd.R_new' (Kd.R_new' ho0 (Kd.R_lt (by (with_reducible repeat (first | apply Kd.R_alloc | apply Kd.R_drewN | apply Kd.R_drew)); exact HO_299001.out))) (Kd.R_lt (by (with_reducible repeat (first | apply Kd.R_alloc | apply Kd.R_drewN | apply Kd.R_drew)); exact HO_299002.out))) (below_size (by repeat (first | (with_reducible first | exact HB.out | apply below_alloc | apply pw_below_drewN | apply below_drew1 | refine below_set ?_ GE298.out) | exact HB.out)))); have n3_ := Aside0.mk (blk_below (g := gb298) (o := .cells #[.string t291, .slice Ao15 t292.length co15, .slice Ao16 t295.length co16] 26 (0, 0)) (by (with_reducible repeat (first | refine blk_drewN ?_ _ | refine blk_drew ?_ | refine blk_alloc ?_ _)); exact BK298.out) hb); have n4_ := Aside0.mk (below_step (by repeat (first | (with_reducible first | exact HB.out | apply below_alloc | apply pw_below_drewN | apply below_drew1 | refine below_set ?_ GE298.out) | exact HB.out)) hb); clear HO_299001; clear HO_299002; clear BK298; clear HB; have HO_299001 := n0_; have HO_299002 := n1_; have HO315 := n2_; have BK298 := n3_; have HB := n4_; clear n0_ n1_ n2_ n3_ n4_; (try clear hb); (try clear hb2); (try clear hk); (try clear hi); (try clear ho0); have hcz52_0 : w51.cell? ⟨gb298, 0, none⟩ = some (.string t291) := (blk_cell BK298.out 0).trans rfl; have hcz52_1 : w51.cell? ⟨gb298, 1, none⟩ = some (.slice Ao15 t292.length co15) := (blk_cell BK298.out 1).trans rfl; have hcz52_2 : w51.cell? ⟨gb298, 2, none⟩ = some (.slice Ao16 t295.length co16) := (blk_cell BK298.out 2).trans rfl; have hfz52_0 := blk_frozen BK298.out 0; have hfz52_1 := blk_frozen BK298.out 1; have hfz52_2 := blk_frozen BK298.out 2) | ((with_reducible refine gate_callee (f := 15) rfl ?_); refine goesL_ (some 138) rfl rfl Try.func15 (by kernel_rfl) rfl #[.agg #[.string t291, .slice Ao15 t292.length co15, .slice Ao16 t295.length co16], .int .i64 (wrap64 (1 + t301)), .int .i64 t304, .int .i64 (wrap64 (1 + t302)), .int .i64 t303] rfl (by (try simp only [List.map_toArray, List.map_cons, List.map_nil]); first | done | rfl | (simp only [List.length_drop, List.length_take]; rfl)) ?_; (with_reducible refine (impl_SamsPassed.calls k2 t291 _ _ t292 _ _ t295 (wrap64 (1 + t301)) t304 (wrap64 (1 + t302)) t303 t317 t318 _ ?side1 ?side2 ?side3 ?side4 A44.out).mono ?_); (case side1 => repeat (first | exact (Kd.R_reads' HO_299001.out).2.2 | (with_reducible refine Kd.C_alloc ?_ _) | (with_reducible refine Kd.C_drewN ?_ _) | (with_reducible refine Kd.C_drew ?_))); (case side2 => exact (Kd.R_reads' HO_299001.out).2.1); (case side3 => repeat (first | exact (Kd.R_reads' HO_299002.out).2.2 | (with_reducible refine Kd.C_alloc ?_ _) | (with_reducible refine Kd.C_drewN ?_ _) | (with_reducible refine Kd.C_drew ?_))); (case side4 => exact (Kd.R_reads' HO_299002.out).2.1); rintro e w53 ⟨rfl, hb⟩; refine ⟨_, rfl, ?_⟩; have n0_ := Aside0.mk (Kd.R_below (by (with_reducible repeat (first | apply Kd.R_alloc | apply Kd.R_drewN | apply Kd.R_drew)); exact HO_299001.out) hb); have n1_ := Aside0.mk (Kd.R_below (by (with_reducible repeat (first | apply Kd.R_alloc | apply Kd.R_drewN | apply Kd.R_drew)); exact HO_299002.out) hb); have n2_ := Aside0.mk (Kd.R_below (by (with_reducible repeat (first | apply Kd.R_alloc | apply Kd.R_drewN | apply Kd.R_drew)); exact HO315.out) hb); have n3_ := Aside0.mk (blk_below (g := gb298) (o := .cells #[.string t291, .slice Ao15 t292.length co15, .slice Ao16 t295.length co16] 26 (0, 0)) (by (with_reducible repeat (first | refine blk_drewN ?_ _ | refine blk_drew ?_ | refine blk_alloc ?_ _)); exact BK298.out) hb); have n4_ := Aside0.mk (below_step (by repeat (first | (with_reducible first | exact HB.out | apply below_alloc | apply pw_below_drewN | apply below_drew1 | refine below_set ?_ GE298.out) | exact HB.out)) hb); clear HO_299001; clear HO_299002; clear HO315; clear BK298; clear HB; have HO_299001 := n0_; have HO_299002 := n1_; have HO315 := n2_; have BK298 := n3_; have HB := n4_; clear n0_ n1_ n2_ n3_ n4_; (try clear hb); (try clear hb2); (try clear hk); (try clear hi)))
        (try simp only [Act.put, s0_, s1_, s2_])
        go_cut [241] (fun v241 wc => ∃ (kq : Nat) (x241_44 : Bool), v241 = .bool x241_44 ∧ Aside0 (laws_FnCadences.j2 kq (wrap64 (1 + t301)) (wrap64 (t299 * (wrap64 (1 + t301)))) x241_44 t291 t292 t295 = some r) ∧ Aside0 (kq ≤ k2) ∧ Aside0 (Kd.R (Kd.int .i64) 2 wc w.heap.size (fun k_ => some k_ ≠ ((.slice Ao16 t295.length co16) : Value).ownBlock) (.slice Ao15 t292.length co15) t292) ∧ Aside0 (Kd.R (Kd.int .i64) 2 wc w.heap.size (fun k_ => some k_ ≠ ((.slice Ao15 t292.length co15) : Value).ownBlock) (.slice Ao16 t295.length co16) t295) ∧ Aside0 (wc.heap[gb298]? = some (.cells #[.string t291, (.slice Ao15 t292.length co15), (.slice Ao16 t295.length co16)] 26 (0, 0))) ∧ Aside0 (Below w.heap.size w wc))
        case first => as_aux_lemma =>
         have H := HC45.out
         clear HC45
         by_cases c54 : t310 = 0
         rotate_left
         ·rw [if_neg c54] at H
          cases H
         rw [if_pos c54] at H
         have c54b0 : (t310 == 0) = true := beq_iff_eq.mpr c54
         have c54b1 : (t310 != 0) = false := bne_eq_false_iff_eq.mpr c54
         clear c54
         (first | rw [c54b0] | (simp only [i64_w, i32_w]; rw [c54b0]) | skip)
         by_cases c55 : t309 > t303
         rotate_left
         ·rw [if_neg c55] at H
          have c55b0 : decide (t303 < t309) = false := decide_eq_false c55
          clear c55
          replace H := Option.bind_eq_some_iff.mp H
          obtain ⟨t319, A570, H⟩ := H
          replace H : (if t319 = true then (if t312 = 0 then (if t311 > (wrap64 (1 + t302)) then (none) else ((spec_IsCadence.f k2 t291 t292 t295 (wrap64 (1 + t301)) t304 t311 t303).bind fun t320 => (if t320 = true then (if t316 = 0 then (if (t313.length : Int) = 4 then (if t318 = 0 then (if 0 < (t313.length : Int) then (if (rd t313 0) = t304 then (if 3 < (t313.length : Int) then (if (rd t313 3) = (wrap64 (t317 * (wrap64 (t299 * (wrap64 (1 + t301)))))) then (if 1 < (t313.length : Int) then (if (wrap64 ((rd t313 1) - (rd t313 0))) = (wrap64 ((wrap64 (1 + t302)) + t303)) then (if 2 < (t313.length : Int) then (if (wrap64 ((rd t313 2) - (rd t313 1))) = (wrap64 ((wrap64 (1 + t302)) + t303)) then (laws_FnCadences.j2 k2 (wrap64 (1 + t301)) (wrap64 (t299 * (wrap64 (1 + t301)))) ((wrap64 ((rd t313 3) - (rd t313 2))) != (wrap64 ((wrap64 (1 + t302)) - 1))) t291 t292 t295) else (none)) else (none)) else (none)) else (none)) else (none)) else (none)) else (none)) else (none)) else (none)) else (none)) else (none)) else (none)))) else (none)) else (none)) = some r := H
          have A57 := Aside0.mk A570
          clear A570
          by_cases c58 : t319 = true
          rotate_left
          ·replace c58 := Bool.eq_false_iff.mpr c58
           subst c58
           rw [if_neg (show ¬ (false = true) by decide)] at H
           cases H
          subst c58
          have H1 : (if t312 = 0 then (if t311 > (wrap64 (1 + t302)) then (none) else ((spec_IsCadence.f k2 t291 t292 t295 (wrap64 (1 + t301)) t304 t311 t303).bind fun t320 => (if t320 = true then (if t316 = 0 then (if (t313.length : Int) = 4 then (if t318 = 0 then (if 0 < (t313.length : Int) then (if (rd t313 0) = t304 then (if 3 < (t313.length : Int) then (if (rd t313 3) = (wrap64 (t317 * (wrap64 (t299 * (wrap64 (1 + t301)))))) then (if 1 < (t313.length : Int) then (if (wrap64 ((rd t313 1) - (rd t313 0))) = (wrap64 ((wrap64 (1 + t302)) + t303)) then (if 2 < (t313.length : Int) then (if (wrap64 ((rd t313 2) - (rd t313 1))) = (wrap64 ((wrap64 (1 + t302)) + t303)) then (laws_FnCadences.j2 k2 (wrap64 (1 + t301)) (wrap64 (t299 * (wrap64 (1 + t301)))) ((wrap64 ((rd t313 3) - (rd t313 2))) != (wrap64 ((wrap64 (1 + t302)) - 1))) t291 t292 t295) else (none)) else (none)) else (none)) else (none)) else (none)) else (none)) else (none)) else (none)) else (none)) else (none)) else (none)) else (none)))) else (none)) = some r := by rw [if_pos rfl] at H; exact H
          clear H
          have H := H1
          clear H1
          by_cases c59 : t312 = 0
          rotate_left
          ·rw [if_neg c59] at H
           cases H
          rw [if_pos c59] at H
          have c59b0 : (t312 == 0) = true := beq_iff_eq.mpr c59
          have c59b1 : (t312 != 0) = false := bne_eq_false_iff_eq.mpr c59
          clear c59
          by_cases c60 : t311 > (wrap64 (1 + t302))
          rotate_left
          ·rw [if_neg c60] at H
           have c60b0 : decide ((wrap64 (1 + t302)) < t311) = false := decide_eq_false c60
           clear c60
           replace H := Option.bind_eq_some_iff.mp H
           obtain ⟨t320, A630, H⟩ := H
           replace H : (if t320 = true then (if t316 = 0 then (if (t313.length : Int) = 4 then (if t318 = 0 then (if 0 < (t313.length : Int) then (if (rd t313 0) = t304 then (if 3 < (t313.length : Int) then (if (rd t313 3) = (wrap64 (t317 * (wrap64 (t299 * (wrap64 (1 + t301)))))) then (if 1 < (t313.length : Int) then (if (wrap64 ((rd t313 1) - (rd t313 0))) = (wrap64 ((wrap64 (1 + t302)) + t303)) then (if 2 < (t313.length : Int) then (if (wrap64 ((rd t313 2) - (rd t313 1))) = (wrap64 ((wrap64 (1 + t302)) + t303)) then (laws_FnCadences.j2 k2 (wrap64 (1 + t301)) (wrap64 (t299 * (wrap64 (1 + t301)))) ((wrap64 ((rd t313 3) - (rd t313 2))) != (wrap64 ((wrap64 (1 + t302)) - 1))) t291 t292 t295) else (none)) else (none)) else (none)) else (none)) else (none)) else (none)) else (none)) else (none)) else (none)) else (none)) else (none)) else (none)) = some r := H
           have A63 := Aside0.mk A630
           clear A630
           by_cases c64 : t320 = true
           rotate_left
           ·replace c64 := Bool.eq_false_iff.mpr c64
            subst c64
            rw [if_neg (show ¬ (false = true) by decide)] at H
            cases H
           subst c64
           have H1 : (if t316 = 0 then (if (t313.length : Int) = 4 then (if t318 = 0 then (if 0 < (t313.length : Int) then (if (rd t313 0) = t304 then (if 3 < (t313.length : Int) then (if (rd t313 3) = (wrap64 (t317 * (wrap64 (t299 * (wrap64 (1 + t301)))))) then (if 1 < (t313.length : Int) then (if (wrap64 ((rd t313 1) - (rd t313 0))) = (wrap64 ((wrap64 (1 + t302)) + t303)) then (if 2 < (t313.length : Int) then (if (wrap64 ((rd t313 2) - (rd t313 1))) = (wrap64 ((wrap64 (1 + t302)) + t303)) then (laws_FnCadences.j2 k2 (wrap64 (1 + t301)) (wrap64 (t299 * (wrap64 (1 + t301)))) ((wrap64 ((rd t313 3) - (rd t313 2))) != (wrap64 ((wrap64 (1 + t302)) - 1))) t291 t292 t295) else (none)) else (none)) else (none)) else (none)) else (none)) else (none)) else (none)) else (none)) else (none)) else (none)) else (none)) = some r := by rw [if_pos rfl] at H; exact H
           clear H
           have H := H1
           clear H1
           by_cases c65 : t316 = 0
           rotate_left
           ·rw [if_neg c65] at H
            cases H
           rw [if_pos c65] at H
           have c65b0 : (t316 == 0) = true := beq_iff_eq.mpr c65
           have c65b1 : (t316 != 0) = false := bne_eq_false_iff_eq.mpr c65
           clear c65
           by_cases c66 : (t313.length : Int) = 4
           rotate_left
           ·rw [if_neg c66] at H
            cases H
           rw [if_pos c66] at H
           have c66b0 : ((t313.length : Int) == 4) = true := beq_iff_eq.mpr c66
           have c66b1 : ((t313.length : Int) != 4) = false := bne_eq_false_iff_eq.mpr c66
           clear c66
           by_cases c67 : t318 = 0
           rotate_left
           ·rw [if_neg c67] at H
            cases H
           rw [if_pos c67] at H
           have c67b0 : (t318 == 0) = true := beq_iff_eq.mpr c67
           have c67b1 : (t318 != 0) = false := bne_eq_false_iff_eq.mpr c67
           clear c67
           by_cases c68 : 0 < (t313.length : Int)
           rotate_left
           ·rw [if_neg c68] at H
            cases H
           rw [if_pos c68] at H
           have c68b0 : decide (0 < (t313.length : Int)) = true := decide_eq_true c68
           have c68b1 : decide (0 < t313.length) = true := decide_eq_true (by omega)
           clear c68
           by_cases c69 : (rd t313 0) = t304
           rotate_left
           ·rw [if_neg c69] at H
            cases H
           rw [if_pos c69] at H
           have c69b0 : ((rd t313 0) == t304) = true := beq_iff_eq.mpr c69
           have c69b1 : ((rd t313 0) != t304) = false := bne_eq_false_iff_eq.mpr c69
           clear c69
           by_cases c70 : 3 < (t313.length : Int)
           rotate_left
           ·rw [if_neg c70] at H
            cases H
           rw [if_pos c70] at H
           have c70b0 : decide (3 < (t313.length : Int)) = true := decide_eq_true c70
           have c70b1 : decide (3 < t313.length) = true := decide_eq_true (by omega)
           clear c70
           by_cases c71 : (rd t313 3) = (wrap64 (t317 * (wrap64 (t299 * (wrap64 (1 + t301))))))
           rotate_left
           ·rw [if_neg c71] at H
            cases H
           rw [if_pos c71] at H
           have c71b0 : ((rd t313 3) == (wrap64 (t317 * (wrap64 (t299 * (wrap64 (1 + t301))))))) = true := beq_iff_eq.mpr c71
           have c71b1 : ((rd t313 3) != (wrap64 (t317 * (wrap64 (t299 * (wrap64 (1 + t301))))))) = false := bne_eq_false_iff_eq.mpr c71
           clear c71
           by_cases c72 : 1 < (t313.length : Int)
           rotate_left
           ·rw [if_neg c72] at H
            cases H
           rw [if_pos c72] at H
           have c72b0 : decide (1 < (t313.length : Int)) = true := decide_eq_true c72
           have c72b1 : decide (1 < t313.length) = true := decide_eq_true (by omega)
           clear c72
           by_cases c73 : (wrap64 ((rd t313 1) - (rd t313 0))) = (wrap64 ((wrap64 (1 + t302)) + t303))
           rotate_left
           ·rw [if_neg c73] at H
            cases H
           rw [if_pos c73] at H
           have c73b0 : ((wrap64 ((rd t313 1) - (rd t313 0))) == (wrap64 ((wrap64 (1 + t302)) + t303))) = true := beq_iff_eq.mpr c73
           have c73b1 : ((wrap64 ((rd t313 1) - (rd t313 0))) != (wrap64 ((wrap64 (1 + t302)) + t303))) = false := bne_eq_false_iff_eq.mpr c73
           clear c73
           by_cases c74 : 2 < (t313.length : Int)
           rotate_left
           ·rw [if_neg c74] at H
            cases H
           rw [if_pos c74] at H
           have c74b0 : decide (2 < (t313.length : Int)) = true := decide_eq_true c74
           have c74b1 : decide (2 < t313.length) = true := decide_eq_true (by omega)
           clear c74
           by_cases c75 : (wrap64 ((rd t313 2) - (rd t313 1))) = (wrap64 ((wrap64 (1 + t302)) + t303))
           rotate_left
           ·rw [if_neg c75] at H
            cases H
           rw [if_pos c75] at H
           have c75b0 : ((wrap64 ((rd t313 2) - (rd t313 1))) == (wrap64 ((wrap64 (1 + t302)) + t303))) = true := beq_iff_eq.mpr c75
           have c75b1 : ((wrap64 ((rd t313 2) - (rd t313 1))) != (wrap64 ((wrap64 (1 + t302)) + t303))) = false := bne_eq_false_iff_eq.mpr c75
           clear c75
           have H' := Aside0.mk H
           clear H
           try go_wp2
           have n0_ := Aside0.mk (Kd.R_drew HO_299001.out)
           have n1_ := Aside0.mk (Kd.R_drew HO_299002.out)
           have n2_ := Aside0.mk (Kd.R_drew HO315.out)
           have n3_ := Aside0.mk (blk_drew BK298.out)
           have n4_ := Aside0.mk (below_drew1 HB.out)
           clear HO_299001
           clear HO_299002
           clear HO315
           clear BK298
           clear HB
           have HO_299001 := n0_
           have HO_299002 := n1_
           have HO315 := n2_
           have BK298 := n3_
           have HB := n4_
           clear n0_ n1_ n2_ n3_ n4_
           obtain ⟨Ao79, co79, eo79⟩ := Kd.R_slice HO315.out
           (first | subst eo79 | (injection eo79 with f1_ f2_ f3_; have f4_ := f1_.symm; have f5_ := f3_.symm; clear f1_ f2_ f3_; subst f4_; subst f5_))
           have p321 : 0 ≤ (0 : Int) := (by omega)
           have q321 : 0 < (t313.length : Int) := of_decide_eq_true (by first | (with_reducible assumption) | assumption)
           obtain ⟨ad321, e321, hx321_0⟩ := Kd.at_int (Kd.R_reads' HO315.out).2.2 0 p321 q321
           cases e321
           have qi321 : (0 < t313.length) = True := eq_true (by omega)
           (try rw [show ((0 : Int)).toNat = 0 from rfl] at hx321_0)
           (try rw [Addr.add_zero'] at hx321_0)
           replace p321 := eq_true p321
           replace q321 := eq_true q321
           have p322 : 0 ≤ (3 : Int) := (by omega)
           have q322 : 3 < (t313.length : Int) := of_decide_eq_true (by first | (with_reducible assumption) | assumption)
           obtain ⟨ad322, e322, hx322_0⟩ := Kd.at_int (Kd.R_reads' HO315.out).2.2 3 p322 q322
           obtain rfl : ad321 = ad322 := (by injection e322)
           (try simp only [show (3 : Int).toNat = 3 from rfl, Nat.reduceMul, Nat.reduceEqDiff, Go.Addr.add, ↓reduceIte] at hx322_0)
           have qi322 : (3 < t313.length) = True := eq_true (by omega)
           (try rw [show ((3 : Int)).toNat = 3 from rfl] at hx322_0)
           replace p322 := eq_true p322
           replace q322 := eq_true q322
           have p323 : 0 ≤ (1 : Int) := (by omega)
           have q323 : 1 < (t313.length : Int) := of_decide_eq_true (by first | (with_reducible assumption) | assumption)
           obtain ⟨ad323, e323, hx323_0⟩ := Kd.at_int (Kd.R_reads' HO315.out).2.2 1 p323 q323
           obtain rfl : ad321 = ad323 := (by injection e323)
           (try simp only [show (1 : Int).toNat = 1 from rfl, Nat.reduceMul, Nat.reduceEqDiff, Go.Addr.add, ↓reduceIte] at hx323_0)
           have qi323 : (1 < t313.length) = True := eq_true (by omega)
           (try rw [show ((1 : Int)).toNat = 1 from rfl] at hx323_0)
           replace p323 := eq_true p323
           replace q323 := eq_true q323
           have p324 : 0 ≤ (0 : Int) := (by omega)
           have q324 : 0 < (t313.length : Int) := of_decide_eq_true (by first | (with_reducible assumption) | assumption)
           obtain ⟨ad324, e324, hx324_0⟩ := Kd.at_int (Kd.R_reads' HO315.out).2.2 0 p324 q324
           obtain rfl : ad321 = ad324 := (by injection e324)
           have qi324 : (0 < t313.length) = True := eq_true (by omega)
           (try rw [show ((0 : Int)).toNat = 0 from rfl] at hx324_0)
           (try rw [Addr.add_zero'] at hx324_0)
           replace p324 := eq_true p324
           replace q324 := eq_true q324
           have p325 : 0 ≤ (2 : Int) := (by omega)
           have q325 : 2 < (t313.length : Int) := of_decide_eq_true (by first | (with_reducible assumption) | assumption)
           obtain ⟨ad325, e325, hx325_0⟩ := Kd.at_int (Kd.R_reads' HO315.out).2.2 2 p325 q325
           obtain rfl : ad321 = ad325 := (by injection e325)
           (try simp only [show (2 : Int).toNat = 2 from rfl, Nat.reduceMul, Nat.reduceEqDiff, Go.Addr.add, ↓reduceIte] at hx325_0)
           have qi325 : (2 < t313.length) = True := eq_true (by omega)
           (try rw [show ((2 : Int)).toNat = 2 from rfl] at hx325_0)
           replace p325 := eq_true p325
           replace q325 := eq_true q325
           have p326 : 0 ≤ (1 : Int) := (by omega)
           have q326 : 1 < (t313.length : Int) := of_decide_eq_true (by first | (with_reducible assumption) | assumption)
           obtain ⟨ad326, e326, hx326_0⟩ := Kd.at_int (Kd.R_reads' HO315.out).2.2 1 p326 q326
           obtain rfl : ad321 = ad326 := (by injection e326)
           (try simp only [show (1 : Int).toNat = 1 from rfl, Nat.reduceMul, Nat.reduceEqDiff, Go.Addr.add, ↓reduceIte] at hx326_0)
           have qi326 : (1 < t313.length) = True := eq_true (by omega)
           (try rw [show ((1 : Int)).toNat = 1 from rfl] at hx326_0)
           replace p326 := eq_true p326
           replace q326 := eq_true q326
           have p327 : 0 ≤ (3 : Int) := (by omega)
           have q327 : 3 < (t313.length : Int) := of_decide_eq_true (by first | (with_reducible assumption) | assumption)
           obtain ⟨ad327, e327, hx327_0⟩ := Kd.at_int (Kd.R_reads' HO315.out).2.2 3 p327 q327
           obtain rfl : ad321 = ad327 := (by injection e327)
           (try simp only [show (3 : Int).toNat = 3 from rfl, Nat.reduceMul, Nat.reduceEqDiff, Go.Addr.add, ↓reduceIte] at hx327_0)
           have qi327 : (3 < t313.length) = True := eq_true (by omega)
           (try rw [show ((3 : Int)).toNat = 3 from rfl] at hx327_0)
           replace p327 := eq_true p327
           replace q327 := eq_true q327
           have p328 : 0 ≤ (2 : Int) := (by omega)
           have q328 : 2 < (t313.length : Int) := of_decide_eq_true (by first | (with_reducible assumption) | assumption)
           obtain ⟨ad328, e328, hx328_0⟩ := Kd.at_int (Kd.R_reads' HO315.out).2.2 2 p328 q328
           obtain rfl : ad321 = ad328 := (by injection e328)
           (try simp only [show (2 : Int).toNat = 2 from rfl, Nat.reduceMul, Nat.reduceEqDiff, Go.Addr.add, ↓reduceIte] at hx328_0)
           have qi328 : (2 < t313.length) = True := eq_true (by omega)
           (try rw [show ((2 : Int)).toNat = 2 from rfl] at hx328_0)
           replace p328 := eq_true p328
           replace q328 := eq_true q328
           refine start_ (n := 101) (S := fun w' => w'.cell? ⟨gb298, 0, none⟩ = some (.string t291) ∧ w'.cell? ⟨gb298, 1, none⟩ = some (.slice Ao15 t292.length co15) ∧ w'.cell? ⟨gb298, 2, none⟩ = some (.slice Ao16 t295.length co16) ∧ w'.cell? ad321 = some (.int .i64 (rd t313 0)) ∧ w'.cell? ⟨ad321.block, ad321.off + 3, none⟩ = some (.int .i64 (rd t313 3)) ∧ w'.cell? ⟨ad321.block, ad321.off + 1, none⟩ = some (.int .i64 (rd t313 1)) ∧ w'.cell? ad321 = some (.int .i64 (rd t313 0)) ∧ w'.cell? ⟨ad321.block, ad321.off + 2, none⟩ = some (.int .i64 (rd t313 2)) ∧ w'.cell? ⟨ad321.block, ad321.off + 1, none⟩ = some (.int .i64 (rd t313 1)) ∧ w'.cell? ⟨ad321.block, ad321.off + 3, none⟩ = some (.int .i64 (rd t313 3)) ∧ w'.cell? ⟨ad321.block, ad321.off + 2, none⟩ = some (.int .i64 (rd t313 2))) (ds := []) bz10_0 (by kernel_rfl) rfl rfl ⟨(blk_cell BK298.out 0).trans rfl, (blk_cell BK298.out 1).trans rfl, (blk_cell BK298.out 2).trans rfl, hx321_0, hx322_0, hx323_0, hx324_0, hx325_0, hx326_0, hx327_0, hx328_0⟩ (fun hHeld => ?_); refine with_tabW laws_FnCadences.tab21 laws_FnCadences.bits21 (fun HT_ HW_ => ?_)
           generalize w53.drew = w76 at HO_299001 HO_299002 HO315 BK298 HB hx321_0 hx322_0 hx323_0 hx324_0 hx325_0 hx326_0 hx327_0 hx328_0 hHeld ⊢
           refine pure_ (i := 0) (N := some 141) (v := ?_) (a' := ?_) bz10_1 rfl rfl (any_of HT_.out (by kernel_rfl)) (fun _ _ _ h => h) (Or.inl ⟨by rfl, ?_⟩) ?_ ?_
           rotate_left
           ·intro w'
            go_simp
            with_reducible rfl
           rotate_left
           ·simp only [Act.put, s0_, s1_, s2_, i64_w, i32_w]
            rfl
           refine pure_ (i := 1) (N := some 142) (v := ?_) (a' := ?_) bz10_2 rfl rfl (any_of HT_.out (by kernel_rfl)) (fun _ _ _ h => h) (Or.inl ⟨by rfl, ?_⟩) ?_ ?_
           rotate_left
           ·intro w'
            go_simp
            with_reducible rfl
           rotate_left
           ·simp only [Act.put, s0_, s1_, s2_, i64_w, i32_w]
            rfl
           refine pure_ (i := 2) (N := some 143) (v := ?_) (a' := ?_) bz10_3 rfl rfl (any_of HT_.out (by kernel_rfl)) (fun _ _ _ h => h) (Or.inl ⟨by rfl, ?_⟩) ?_ ?_
           rotate_left
           ·intro w'
            go_simp
            with_reducible rfl
           rotate_left
           ·simp only [Act.put, s0_, s1_, s2_, i64_w, i32_w]
            rfl
           refine pure_ (i := 3) (N := some 144) (v := ?_) (a' := ?_) bz10_4 rfl rfl (any_of HT_.out (by kernel_rfl)) (fun _ _ _ h => h) (Or.inl ⟨by rfl, ?_⟩) ?_ ?_
           rotate_left
           ·intro w'
            go_simp
            with_reducible rfl
           rotate_left
           ·simp only [Act.put, s0_, s1_, s2_, i64_w, i32_w]
            rfl
           refine pure_ (i := 4) (N := some 145) (v := ?_) (a' := ?_) bz10_5 rfl rfl (any_of HT_.out (by kernel_rfl)) (fun _ _ _ h => h) (Or.inl ⟨by rfl, ?_⟩) ?_ ?_
           rotate_left
           ·intro w'
            go_simp
            with_reducible rfl
           rotate_left
           ·simp only [Act.put, s0_, s1_, s2_, i64_w, i32_w]
            rfl
           refine pure_ (i := 5) (N := some 146) (v := ?_) (a' := ?_) bz10_6 rfl rfl (any_of HT_.out (by kernel_rfl)) (fun _ _ _ h => h) (Or.inl ⟨by rfl, ?_⟩) ?_ ?_
           rotate_left
           ·intro w'
            go_simp
            with_reducible rfl
           rotate_left
           ·simp only [Act.put, s0_, s1_, s2_, i64_w, i32_w]
            rfl
           refine pure_ (i := 6) (N := some 147) (v := ?_) (a' := ?_) bz10_7 rfl rfl (any_of HT_.out (by kernel_rfl)) (fun _ _ _ h => h) (Or.inl ⟨by rfl, ?_⟩) ?_ ?_
           rotate_left
           ·intro w'
            go_simp
            with_reducible rfl
           rotate_left
           ·simp only [Act.put, s0_, s1_, s2_, i64_w, i32_w]
            rfl
           refine pure_ (i := 7) (N := some 148) (v := ?_) (a' := ?_) bz10_8 rfl rfl (any_of HT_.out (by kernel_rfl)) (fun _ _ _ h => h) (Or.inl ⟨by rfl, ?_⟩) ?_ ?_
           rotate_left
           ·intro w'
            go_simp
            with_reducible rfl
           rotate_left
           ·simp only [Act.put, s0_, s1_, s2_, i64_w, i32_w]
            rfl
           refine pure_ (i := 9) (N := some 150) (v := ?_) (a' := ?_) bz10_9 rfl rfl (any_of HT_.out (by kernel_rfl)) (fun _ _ _ h => h) (Or.inl ⟨by rfl, ?_⟩) ?_ ?_
           rotate_left
           ·intro w'
            go_simp
            with_reducible rfl
           rotate_left
           ·simp only [Act.put, s0_, s1_, s2_, i64_w, i32_w]
            rfl
           refine pure_ (i := 10) (N := some 151) (v := ?_) (a' := ?_) bz10_10 rfl rfl (any_of HT_.out (by kernel_rfl)) (fun _ _ _ h => h) (Or.inl ⟨by rfl, ?_⟩) ?_ ?_
           rotate_left
           ·intro w'
            go_simp
            with_reducible rfl
           rotate_left
           ·simp only [Act.put, s0_, s1_, s2_, i64_w, i32_w]
            rfl
           refine pure_ (i := 11) (N := some 152) (v := ?_) (a' := ?_) bz10_11 rfl rfl (any_of HT_.out (by kernel_rfl)) (fun _ _ _ h => h) (Or.inl ⟨by rfl, ?_⟩) ?_ ?_
           rotate_left
           ·intro w'
            go_simp
            with_reducible rfl
           rotate_left
           ·simp only [Act.put, s0_, s1_, s2_, i64_w, i32_w]
            rfl
           refine pure_ (i := 12) (N := some 153) (v := ?_) (a' := ?_) bz10_12 rfl rfl (any_of HT_.out (by kernel_rfl)) (fun _ _ _ h => h) (Or.inl ⟨by rfl, ?_⟩) ?_ ?_
           rotate_left
           ·intro w'
            go_simp
            with_reducible rfl
           rotate_left
           ·simp only [Act.put, s0_, s1_, s2_, i64_w, i32_w]
            rfl
           refine take_ (i := 8) (N := some 149) (v := ?_) (a' := ?_) bz10_13 rfl rfl (take_ofW HT_.out HW_.out (by kernel_rfl)) (fun _ _ _ h => h) (Or.inl ⟨by rfl, ?_⟩) hHeld ?_ ?_
           rotate_left
           ·rintro w' ⟨s0, s1, s2, s3, s4, s5, s6, s7, s8, s9, s10⟩
            go_simp
            with_reducible rfl
           rotate_left
           ·simp only [Act.put, s0_, s1_, s2_, i64_w, i32_w]
            rfl
           refine one_ (i := 13) (N := some 154) bz10_14 rfl rfl (one_of HT_.out (by kernel_rfl)) (by decide) (fun K hK => ?_)
           refine goes_ Try.func16 (by kernel_rfl) rfl #[.agg #[.string t291, .slice Ao15 t292.length co15, .slice Ao16 t295.length co16], .int .i64 (wrap64 (1 + t301)), .int .i64 t304, .int .i64 (wrap64 (1 + t302)), .int .i64 t309] (by rfl) rfl rfl (by (try simp only [List.map_toArray, List.map_cons, List.map_nil]); first | done | rfl | (simp only [List.length_drop, List.length_take]; rfl)) ?_
           with_reducible refine (spec_IsCadence.calls k2 t291 _ _ t292 _ _ t295 (wrap64 (1 + t301)) t304 (wrap64 (1 + t302)) t309 true _ ?side1 ?side2 ?side3 ?side4 A57.out).mono ?_
           (case side1 => repeat (first | exact (Kd.R_reads' HO_299001.out).2.2 | (with_reducible refine Kd.C_alloc ?_ _) | (with_reducible refine Kd.C_drewN ?_ _) | (with_reducible refine Kd.C_drew ?_)))
           (case side2 => exact (Kd.R_reads' HO_299001.out).2.1)
           (case side3 => repeat (first | exact (Kd.R_reads' HO_299002.out).2.2 | (with_reducible refine Kd.C_alloc ?_ _) | (with_reducible refine Kd.C_drewN ?_ _) | (with_reducible refine Kd.C_drew ?_)))
           (case side4 => exact (Kd.R_reads' HO_299002.out).2.1)
           rintro e w77 ⟨rfl, hb⟩
           have HS3_ := (hb.cell (World.block_lt_of_cell? _ _ (hHeld.2.2.2.1))).trans (hHeld.2.2.2.1)
           have HS4_ := (hb.cell (World.block_lt_of_cell? _ _ (hHeld.2.2.2.2.1))).trans (hHeld.2.2.2.2.1)
           have HS5_ := (hb.cell (World.block_lt_of_cell? _ _ (hHeld.2.2.2.2.2.1))).trans (hHeld.2.2.2.2.2.1)
           have HS6_ := (hb.cell (World.block_lt_of_cell? _ _ (hHeld.2.2.2.2.2.2.1))).trans (hHeld.2.2.2.2.2.2.1)
           have HS7_ := (hb.cell (World.block_lt_of_cell? _ _ (hHeld.2.2.2.2.2.2.2.1))).trans (hHeld.2.2.2.2.2.2.2.1)
           have HS8_ := (hb.cell (World.block_lt_of_cell? _ _ (hHeld.2.2.2.2.2.2.2.2.1))).trans (hHeld.2.2.2.2.2.2.2.2.1)
           have HS9_ := (hb.cell (World.block_lt_of_cell? _ _ (hHeld.2.2.2.2.2.2.2.2.2.1))).trans (hHeld.2.2.2.2.2.2.2.2.2.1)
           have HS10_ := (hb.cell (World.block_lt_of_cell? _ _ (hHeld.2.2.2.2.2.2.2.2.2.2))).trans (hHeld.2.2.2.2.2.2.2.2.2.2)
           refine ⟨_, rfl, ?_⟩
           have n0_ := Aside0.mk (Kd.R_below (by (with_reducible repeat (first | apply Kd.R_alloc | apply Kd.R_drewN | apply Kd.R_drew)); exact HO_299001.out) hb)
           have n1_ := Aside0.mk (Kd.R_below (by (with_reducible repeat (first | apply Kd.R_alloc | apply Kd.R_drewN | apply Kd.R_drew)); exact HO_299002.out) hb)
           have n2_ := Aside0.mk (Kd.R_below (by (with_reducible repeat (first | apply Kd.R_alloc | apply Kd.R_drewN | apply Kd.R_drew)); exact HO315.out) hb)
           have n3_ := Aside0.mk (blk_below (g := gb298) (o := .cells #[.string t291, .slice Ao15 t292.length co15, .slice Ao16 t295.length co16] 26 (0, 0)) (by (with_reducible repeat (first | refine blk_drewN ?_ _ | refine blk_drew ?_ | refine blk_alloc ?_ _)); exact BK298.out) hb)
           have n4_ := Aside0.mk (below_step (by repeat (first | (with_reducible first | exact HB.out | apply below_alloc | apply pw_below_drewN | apply below_drew1 | refine below_set ?_ GE298.out) | exact HB.out)) hb)
           clear HO_299001
           clear HO_299002
           clear HO315
           clear BK298
           clear HB
           have HO_299001 := n0_
           have HO_299002 := n1_
           have HO315 := n2_
           have BK298 := n3_
           have HB := n4_
           clear n0_ n1_ n2_ n3_ n4_
           (try clear hb)
           (try clear hb2)
           (try clear hk)
           (try clear hi)
           refine hK.out _ _ ⟨(blk_cell BK298.out 0).trans rfl, (blk_cell BK298.out 1).trans rfl, (blk_cell BK298.out 2).trans rfl, HS3_, HS4_, HS5_, HS6_, HS7_, HS8_, HS9_, HS10_⟩ (fun hHeld => ?_)
           clear hK K
           refine norm_ (a' := ?_) ?_ ?_
           rotate_left
           ·show Act.put _ (some 154) _ = _
            simp only [Act.put, s0_, s1_, s2_, i64_w, i32_w]
            rfl
           refine pure_ (i := 14) (N := some 155) (v := ?_) (a' := ?_) bz10_15 rfl rfl (any_of HT_.out (by kernel_rfl)) (fun _ _ _ h => h) (Or.inl ⟨by rfl, ?_⟩) ?_ ?_
           rotate_left
           ·intro w'
            go_simp
            with_reducible rfl
           rotate_left
           ·simp only [Act.put, s0_, s1_, s2_, i64_w, i32_w]
            rfl
           refine pure_ (i := 15) (N := some 156) (v := ?_) (a' := ?_) bz10_16 rfl rfl (any_of HT_.out (by kernel_rfl)) (fun _ _ _ h => h) (Or.inl ⟨by rfl, ?_⟩) ?_ ?_
           rotate_left
           ·intro w'
            go_simp
            with_reducible rfl
           rotate_left
           ·simp only [Act.put, s0_, s1_, s2_, i64_w, i32_w]
            rfl
           refine pure_ (i := 16) (N := some 157) (v := ?_) (a' := ?_) bz10_17 rfl rfl (any_of HT_.out (by kernel_rfl)) (fun _ _ _ h => h) (Or.inl ⟨by rfl, ?_⟩) ?_ ?_
           rotate_left
           ·intro w'
            go_simp
            with_reducible rfl
           rotate_left
           ·simp only [Act.put, s0_, s1_, s2_, i64_w, i32_w]
            rfl
           refine pure_ (i := 17) (N := some 158) (v := ?_) (a' := ?_) bz10_18 rfl rfl (any_of HT_.out (by kernel_rfl)) (fun _ _ _ h => h) (Or.inl ⟨by rfl, ?_⟩) ?_ ?_
           rotate_left
           ·intro w'
            go_simp
            with_reducible rfl
           rotate_left
           ·simp only [Act.put, s0_, s1_, s2_, i64_w, i32_w]
            rfl
           refine pure_ (i := 18) (N := some 159) (v := ?_) (a' := ?_) bz10_19 rfl rfl (any_of HT_.out (by kernel_rfl)) (fun _ _ _ h => h) (Or.inl ⟨by rfl, ?_⟩) ?_ ?_
           rotate_left
           ·intro w'
            go_simp
            with_reducible rfl
           rotate_left
           ·simp only [Act.put, s0_, s1_, s2_, i64_w, i32_w]
            rfl
           refine pure_ (i := 19) (N := some 160) (v := ?_) (a' := ?_) bz10_20 rfl rfl (any_of HT_.out (by kernel_rfl)) (fun _ _ _ h => h) (Or.inl ⟨by rfl, ?_⟩) ?_ ?_
           rotate_left
           ·intro w'
            go_simp
            with_reducible rfl
           rotate_left
           ·simp only [Act.put, s0_, s1_, s2_, i64_w, i32_w]
            rfl
           refine pure_ (i := 20) (N := some 161) (v := ?_) (a' := ?_) bz10_21 rfl rfl (any_of HT_.out (by kernel_rfl)) (fun _ _ _ h => h) (Or.inl ⟨by rfl, ?_⟩) ?_ ?_
           rotate_left
           ·intro w'
            go_simp
            with_reducible rfl
           rotate_left
           ·simp only [Act.put, s0_, s1_, s2_, i64_w, i32_w]
            rfl
           refine pure_ (i := 21) (N := some 162) (v := ?_) (a' := ?_) bz10_22 rfl rfl (any_of HT_.out (by kernel_rfl)) (fun _ _ _ h => h) (Or.inl ⟨by rfl, ?_⟩) ?_ ?_
           rotate_left
           ·intro w'
            go_simp
            with_reducible rfl
           rotate_left
           ·simp only [Act.put, s0_, s1_, s2_, i64_w, i32_w]
            rfl
           refine pure_ (i := 22) (N := some 163) (v := ?_) (a' := ?_) bz10_23 rfl rfl (any_of HT_.out (by kernel_rfl)) (fun _ _ _ h => h) (Or.inl ⟨by rfl, ?_⟩) ?_ ?_
           rotate_left
           ·intro w'
            go_simp
            with_reducible rfl
           rotate_left
           ·simp only [Act.put, s0_, s1_, s2_, i64_w, i32_w]
            rfl
           refine pure_ (i := 23) (N := some 164) (v := ?_) (a' := ?_) bz10_24 rfl rfl (any_of HT_.out (by kernel_rfl)) (fun _ _ _ h => h) (Or.inl ⟨by rfl, ?_⟩) ?_ ?_
           rotate_left
           ·intro w'
            go_simp
            with_reducible rfl
           rotate_left
           ·simp only [Act.put, s0_, s1_, s2_, i64_w, i32_w]
            rfl
           refine pure_ (i := 24) (N := some 165) (v := ?_) (a' := ?_) bz10_25 rfl rfl (any_of HT_.out (by kernel_rfl)) (fun _ _ _ h => h) (Or.inl ⟨by rfl, ?_⟩) ?_ ?_
           rotate_left
           ·intro w'
            go_simp
            with_reducible rfl
           rotate_left
           ·simp only [Act.put, s0_, s1_, s2_, i64_w, i32_w]
            rfl
           refine pure_ (i := 25) (N := some 166) (v := ?_) (a' := ?_) bz10_26 rfl rfl (any_of HT_.out (by kernel_rfl)) (fun _ _ _ h => h) (Or.inl ⟨by rfl, ?_⟩) ?_ ?_
           rotate_left
           ·intro w'
            go_simp
            with_reducible rfl
           rotate_left
           ·simp only [Act.put, s0_, s1_, s2_, i64_w, i32_w]
            rfl
           refine pure_ (i := 27) (N := some 168) (v := ?_) (a' := ?_) bz10_27 rfl rfl (any_of HT_.out (by kernel_rfl)) (fun _ _ _ h => h) (Or.inl ⟨by rfl, ?_⟩) ?_ ?_
           rotate_left
           ·intro w'
            go_simp
            with_reducible rfl
           rotate_left
           ·simp only [Act.put, s0_, s1_, s2_, i64_w, i32_w]
            rfl
           refine pure_ (i := 28) (N := some 169) (v := ?_) (a' := ?_) bz10_28 rfl rfl (any_of HT_.out (by kernel_rfl)) (fun _ _ _ h => h) (Or.inl ⟨by rfl, ?_⟩) ?_ ?_
           rotate_left
           ·intro w'
            go_simp
            with_reducible rfl
           rotate_left
           ·simp only [Act.put, s0_, s1_, s2_, i64_w, i32_w]
            rfl
           refine pure_ (i := 29) (N := some 170) (v := ?_) (a' := ?_) bz10_29 rfl rfl (any_of HT_.out (by kernel_rfl)) (fun _ _ _ h => h) (Or.inl ⟨by rfl, ?_⟩) ?_ ?_
           rotate_left
           ·intro w'
            go_simp
            with_reducible rfl
           rotate_left
           ·simp only [Act.put, s0_, s1_, s2_, i64_w, i32_w]
            rfl
           refine pure_ (i := 30) (N := some 171) (v := ?_) (a' := ?_) bz10_30 rfl rfl (any_of HT_.out (by kernel_rfl)) (fun _ _ _ h => h) (Or.inl ⟨by rfl, ?_⟩) ?_ ?_
           rotate_left
           ·intro w'
            go_simp
            with_reducible rfl
           rotate_left
           ·simp only [Act.put, s0_, s1_, s2_, i64_w, i32_w]
            rfl
           refine take_ (i := 26) (N := some 167) (v := ?_) (a' := ?_) bz10_31 rfl rfl (take_ofW HT_.out HW_.out (by kernel_rfl)) (fun _ _ _ h => h) (Or.inl ⟨by rfl, ?_⟩) hHeld ?_ ?_
           rotate_left
           ·rintro w' ⟨s0, s1, s2, s3, s4, s5, s6, s7, s8, s9, s10⟩
            go_simp
            with_reducible rfl
           rotate_left
           ·simp only [Act.put, s0_, s1_, s2_, i64_w, i32_w]
            rfl
           refine one_ (i := 31) (N := some 172) bz10_32 rfl rfl (one_of HT_.out (by kernel_rfl)) (by decide) (fun K hK => ?_)
           refine goes_ Try.func16 (by kernel_rfl) rfl #[.agg #[.string t291, .slice Ao15 t292.length co15, .slice Ao16 t295.length co16], .int .i64 (wrap64 (1 + t301)), .int .i64 t304, .int .i64 t311, .int .i64 t303] (by rfl) rfl rfl (by (try simp only [List.map_toArray, List.map_cons, List.map_nil]); first | done | rfl | (simp only [List.length_drop, List.length_take]; rfl)) ?_
           with_reducible refine (spec_IsCadence.calls k2 t291 _ _ t292 _ _ t295 (wrap64 (1 + t301)) t304 t311 t303 true _ ?side1 ?side2 ?side3 ?side4 A63.out).mono ?_
           (case side1 => repeat (first | exact (Kd.R_reads' HO_299001.out).2.2 | (with_reducible refine Kd.C_alloc ?_ _) | (with_reducible refine Kd.C_drewN ?_ _) | (with_reducible refine Kd.C_drew ?_)))
           (case side2 => exact (Kd.R_reads' HO_299001.out).2.1)
           (case side3 => repeat (first | exact (Kd.R_reads' HO_299002.out).2.2 | (with_reducible refine Kd.C_alloc ?_ _) | (with_reducible refine Kd.C_drewN ?_ _) | (with_reducible refine Kd.C_drew ?_)))
           (case side4 => exact (Kd.R_reads' HO_299002.out).2.1)
           rintro e w78 ⟨rfl, hb⟩
           have HS3_ := (hb.cell (World.block_lt_of_cell? _ _ (hHeld.2.2.2.1))).trans (hHeld.2.2.2.1)
           have HS4_ := (hb.cell (World.block_lt_of_cell? _ _ (hHeld.2.2.2.2.1))).trans (hHeld.2.2.2.2.1)
           have HS5_ := (hb.cell (World.block_lt_of_cell? _ _ (hHeld.2.2.2.2.2.1))).trans (hHeld.2.2.2.2.2.1)
           have HS6_ := (hb.cell (World.block_lt_of_cell? _ _ (hHeld.2.2.2.2.2.2.1))).trans (hHeld.2.2.2.2.2.2.1)
           have HS7_ := (hb.cell (World.block_lt_of_cell? _ _ (hHeld.2.2.2.2.2.2.2.1))).trans (hHeld.2.2.2.2.2.2.2.1)
           have HS8_ := (hb.cell (World.block_lt_of_cell? _ _ (hHeld.2.2.2.2.2.2.2.2.1))).trans (hHeld.2.2.2.2.2.2.2.2.1)
           have HS9_ := (hb.cell (World.block_lt_of_cell? _ _ (hHeld.2.2.2.2.2.2.2.2.2.1))).trans (hHeld.2.2.2.2.2.2.2.2.2.1)
           have HS10_ := (hb.cell (World.block_lt_of_cell? _ _ (hHeld.2.2.2.2.2.2.2.2.2.2))).trans (hHeld.2.2.2.2.2.2.2.2.2.2)
           refine ⟨_, rfl, ?_⟩
           have n0_ := Aside0.mk (Kd.R_below (by (with_reducible repeat (first | apply Kd.R_alloc | apply Kd.R_drewN | apply Kd.R_drew)); exact HO_299001.out) hb)
           have n1_ := Aside0.mk (Kd.R_below (by (with_reducible repeat (first | apply Kd.R_alloc | apply Kd.R_drewN | apply Kd.R_drew)); exact HO_299002.out) hb)
           have n2_ := Aside0.mk (Kd.R_below (by (with_reducible repeat (first | apply Kd.R_alloc | apply Kd.R_drewN | apply Kd.R_drew)); exact HO315.out) hb)
           have n3_ := Aside0.mk (blk_below (g := gb298) (o := .cells #[.string t291, .slice Ao15 t292.length co15, .slice Ao16 t295.length co16] 26 (0, 0)) (by (with_reducible repeat (first | refine blk_drewN ?_ _ | refine blk_drew ?_ | refine blk_alloc ?_ _)); exact BK298.out) hb)
           have n4_ := Aside0.mk (below_step (by repeat (first | (with_reducible first | exact HB.out | apply below_alloc | apply pw_below_drewN | apply below_drew1 | refine below_set ?_ GE298.out) | exact HB.out)) hb)
           clear HO_299001
           clear HO_299002
           clear HO315
           clear BK298
           clear HB
           have HO_299001 := n0_
           have HO_299002 := n1_
           have HO315 := n2_
           have BK298 := n3_
           have HB := n4_
           clear n0_ n1_ n2_ n3_ n4_
           (try clear hb)
           (try clear hb2)
           (try clear hk)
           (try clear hi)
           refine hK.out _ _ ⟨(blk_cell BK298.out 0).trans rfl, (blk_cell BK298.out 1).trans rfl, (blk_cell BK298.out 2).trans rfl, HS3_, HS4_, HS5_, HS6_, HS7_, HS8_, HS9_, HS10_⟩ (fun hHeld => ?_)
           clear hK K
           refine norm_ (a' := ?_) ?_ ?_
           rotate_left
           ·show Act.put _ (some 172) _ = _
            simp only [Act.put, s0_, s1_, s2_, i64_w, i32_w]
            rfl
           refine pure_ (i := 32) (N := some 173) (v := ?_) (a' := ?_) bz10_33 rfl rfl (any_of HT_.out (by kernel_rfl)) (fun _ _ _ h => h) (Or.inl ⟨by rfl, ?_⟩) ?_ ?_
           rotate_left
           ·intro w'
            go_simp
            with_reducible rfl
           rotate_left
           ·simp only [Act.put, s0_, s1_, s2_, i64_w, i32_w]
            rfl
           refine pure_ (i := 33) (N := some 174) (v := ?_) (a' := ?_) bz10_34 rfl rfl (any_of HT_.out (by kernel_rfl)) (fun _ _ _ h => h) (Or.inl ⟨by rfl, ?_⟩) ?_ ?_
           rotate_left
           ·intro w'
            go_simp
            with_reducible rfl
           rotate_left
           ·simp only [Act.put, s0_, s1_, s2_, i64_w, i32_w]
            rfl
           refine pure_ (i := 34) (N := some 175) (v := ?_) (a' := ?_) bz10_35 rfl rfl (any_of HT_.out (by kernel_rfl)) (fun _ _ _ h => h) (Or.inl ⟨by rfl, ?_⟩) ?_ ?_
           rotate_left
           ·intro w'
            go_simp
            with_reducible rfl
           rotate_left
           ·simp only [Act.put, s0_, s1_, s2_, i64_w, i32_w]
            rfl
           refine pure_ (i := 35) (N := some 176) (v := ?_) (a' := ?_) bz10_36 rfl rfl (any_of HT_.out (by kernel_rfl)) (fun _ _ _ h => h) (Or.inl ⟨by rfl, ?_⟩) ?_ ?_
           rotate_left
           ·intro w'
            go_simp
            with_reducible rfl
           rotate_left
           ·simp only [Act.put, s0_, s1_, s2_, i64_w, i32_w]
            rfl
           refine pure_ (i := 36) (N := some 177) (v := ?_) (a' := ?_) bz10_37 rfl rfl (any_of HT_.out (by kernel_rfl)) (fun _ _ _ h => h) (Or.inl ⟨by rfl, ?_⟩) ?_ ?_
           rotate_left
           ·intro w'
            go_simp
            with_reducible rfl
           rotate_left
           ·simp only [Act.put, s0_, s1_, s2_, i64_w, i32_w]
            rfl
           refine pure_ (i := 37) (N := some 178) (v := ?_) (a' := ?_) bz10_38 rfl rfl (any_of HT_.out (by kernel_rfl)) (fun _ _ _ h => h) (Or.inl ⟨by rfl, ?_⟩) ?_ ?_
           rotate_left
           ·intro w'
            go_simp
            with_reducible rfl
           rotate_left
           ·simp only [Act.put, s0_, s1_, s2_, i64_w, i32_w]
            rfl
           refine pure_ (i := 38) (N := some 179) (v := ?_) (a' := ?_) bz10_39 rfl rfl (any_of HT_.out (by kernel_rfl)) (fun _ _ _ h => h) (Or.inl ⟨by rfl, ?_⟩) ?_ ?_
           rotate_left
           ·intro w'
            go_simp
            with_reducible rfl
           rotate_left
           ·simp only [Act.put, s0_, s1_, s2_, i64_w, i32_w]
            rfl
           refine pure_ (i := 39) (N := some 180) (v := ?_) (a' := ?_) bz10_40 rfl rfl (any_of HT_.out (by kernel_rfl)) (fun _ _ _ h => h) (Or.inl ⟨by rfl, ?_⟩) ?_ ?_
           rotate_left
           ·intro w'
            go_simp
            with_reducible rfl
           rotate_left
           ·simp only [Act.put, s0_, s1_, s2_, i64_w, i32_w]
            rfl
           refine pure_ (i := 40) (N := some 181) (v := ?_) (a' := ?_) bz10_41 rfl rfl (any_of HT_.out (by kernel_rfl)) (fun _ _ _ h => h) (Or.inl ⟨by rfl, ?_⟩) ?_ ?_
           rotate_left
           ·intro w'
            go_simp
            with_reducible rfl
           rotate_left
           ·simp only [Act.put, s0_, s1_, s2_, i64_w, i32_w]
            rfl
           refine pure_ (i := 41) (N := some 182) (v := ?_) (a' := ?_) bz10_42 rfl rfl (any_of HT_.out (by kernel_rfl)) (fun _ _ _ h => h) (Or.inl ⟨by rfl, ?_⟩) ?_ ?_
           rotate_left
           ·intro w'
            go_simp
            with_reducible rfl
           rotate_left
           ·simp only [Act.put, s0_, s1_, s2_, i64_w, i32_w]
            rfl
           refine pure_ (i := 42) (N := some 183) (v := ?_) (a' := ?_) bz10_43 rfl rfl (any_of HT_.out (by kernel_rfl)) (fun _ _ _ h => h) (Or.inl ⟨by rfl, ?_⟩) ?_ ?_
           rotate_left
           ·intro w'
            go_simp
            with_reducible rfl
           rotate_left
           ·simp only [Act.put, s0_, s1_, s2_, i64_w, i32_w]
            rfl
           refine pure_ (i := 43) (N := some 184) (v := ?_) (a' := ?_) bz10_44 rfl rfl (any_of HT_.out (by kernel_rfl)) (fun _ _ _ h => h) (Or.inl ⟨by rfl, ?_⟩) ?_ ?_
           rotate_left
           ·intro w'
            go_simp
            with_reducible rfl
           rotate_left
           ·simp only [Act.put, s0_, s1_, s2_, i64_w, i32_w]
            rfl
           refine pure_ (i := 44) (N := some 185) (v := ?_) (a' := ?_) bz10_45 rfl rfl (any_of HT_.out (by kernel_rfl)) (fun _ _ _ h => h) (Or.inl ⟨by rfl, ?_⟩) ?_ ?_
           rotate_left
           ·intro w'
            go_simp
            with_reducible rfl
           rotate_left
           ·simp only [Act.put, s0_, s1_, s2_, i64_w, i32_w]
            rfl
           refine pure_ (i := 45) (N := some 186) (v := ?_) (a' := ?_) bz10_46 rfl rfl (any_of HT_.out (by kernel_rfl)) (fun _ _ _ h => h) (Or.inl ⟨by rfl, ?_⟩) ?_ ?_
           rotate_left
           ·intro w'
            go_simp
            with_reducible rfl
           rotate_left
           ·simp only [Act.put, s0_, s1_, s2_, i64_w, i32_w]
            rfl
           refine pure_ (i := 46) (N := some 187) (v := ?_) (a' := ?_) bz10_47 rfl rfl (any_of HT_.out (by kernel_rfl)) (fun _ _ _ h => h) (Or.inl ⟨by rfl, ?_⟩) ?_ ?_
           rotate_left
           ·intro w'
            go_simp
            with_reducible rfl
           rotate_left
           ·simp only [Act.put, s0_, s1_, s2_, i64_w, i32_w]
            rfl
           refine pure_ (i := 47) (N := some 188) (v := ?_) (a' := ?_) bz10_48 rfl rfl (any_of HT_.out (by kernel_rfl)) (fun _ _ _ h => h) (Or.inl ⟨by rfl, ?_⟩) ?_ ?_
           rotate_left
           ·intro w'
            go_simp
            with_reducible rfl
           rotate_left
           ·simp only [Act.put, s0_, s1_, s2_, i64_w, i32_w]
            rfl
           refine pure_ (i := 48) (N := some 189) (v := ?_) (a' := ?_) bz10_49 rfl rfl (any_of HT_.out (by kernel_rfl)) (fun _ _ _ h => h) (Or.inl ⟨by rfl, ?_⟩) ?_ ?_
           rotate_left
           ·intro w'
            go_simp
            with_reducible rfl
           rotate_left
           ·simp only [Act.put, s0_, s1_, s2_, i64_w, i32_w]
            rfl
           refine pure_ (i := 49) (N := some 190) (v := ?_) (a' := ?_) bz10_50 rfl rfl (any_of HT_.out (by kernel_rfl)) (fun _ _ _ h => h) (Or.inl ⟨by rfl, ?_⟩) ?_ ?_
           rotate_left
           ·intro w'
            go_simp
            with_reducible rfl
           rotate_left
           ·simp only [Act.put, s0_, s1_, s2_, i64_w, i32_w]
            rfl
           refine pure_ (i := 51) (N := some 192) (v := ?_) (a' := ?_) bz10_51 rfl rfl (any_of HT_.out (by kernel_rfl)) (fun _ _ _ h => h) (Or.inl ⟨by rfl, ?_⟩) ?_ ?_
           rotate_left
           ·intro w'
            go_simp
            with_reducible rfl
           rotate_left
           ·simp only [Act.put, s0_, s1_, s2_, i64_w, i32_w]
            rfl
           refine take_ (i := 50) (N := some 191) (v := ?_) (a' := ?_) bz10_52 rfl rfl (take_ofW HT_.out HW_.out (by kernel_rfl)) (fun _ _ _ h => h) (Or.inl ⟨by rfl, ?_⟩) hHeld ?_ ?_
           rotate_left
           ·rintro w' ⟨s0, s1, s2, s3, s4, s5, s6, s7, s8, s9, s10⟩
            go_simp
            with_reducible rfl
           rotate_left
           ·simp only [Act.put, s0_, s1_, s2_, i64_w, i32_w]
            rfl
           refine pure_ (i := 52) (N := some 193) (v := ?_) (a' := ?_) bz10_53 rfl rfl (any_of HT_.out (by kernel_rfl)) (fun _ _ _ h => h) (Or.inl ⟨by rfl, ?_⟩) ?_ ?_
           rotate_left
           ·intro w'
            go_simp
            with_reducible rfl
           rotate_left
           ·simp only [Act.put, s0_, s1_, s2_, i64_w, i32_w]
            rfl
           refine pure_ (i := 53) (N := some 194) (v := ?_) (a' := ?_) bz10_54 rfl rfl (any_of HT_.out (by kernel_rfl)) (fun _ _ _ h => h) (Or.inl ⟨by rfl, ?_⟩) ?_ ?_
           rotate_left
           ·intro w'
            go_simp
            with_reducible rfl
           rotate_left
           ·simp only [Act.put, s0_, s1_, s2_, i64_w, i32_w]
            rfl
           refine pure_ (i := 54) (N := some 195) (v := ?_) (a' := ?_) bz10_55 rfl rfl (any_of HT_.out (by kernel_rfl)) (fun _ _ _ h => h) (Or.inl ⟨by rfl, ?_⟩) ?_ ?_
           rotate_left
           ·intro w'
            go_simp
            with_reducible rfl
           rotate_left
           ·simp only [Act.put, s0_, s1_, s2_, i64_w, i32_w]
            rfl
           refine pure_ (i := 55) (N := some 196) (v := ?_) (a' := ?_) bz10_56 rfl rfl (any_of HT_.out (by kernel_rfl)) (fun _ _ _ h => h) (Or.inl ⟨by rfl, ?_⟩) ?_ ?_
           rotate_left
           ·intro w'
            go_simp
            with_reducible rfl
           rotate_left
           ·simp only [Act.put, s0_, s1_, s2_, i64_w, i32_w]
            rfl
           refine pure_ (i := 56) (N := some 197) (v := ?_) (a' := ?_) bz10_57 rfl rfl (any_of HT_.out (by kernel_rfl)) (fun _ _ _ h => h) (Or.inl ⟨by rfl, ?_⟩) ?_ ?_
           rotate_left
           ·intro w'
            go_simp
            with_reducible rfl
           rotate_left
           ·simp only [Act.put, s0_, s1_, s2_, i64_w, i32_w]
            rfl
           refine pure_ (i := 58) (N := some 199) (v := ?_) (a' := ?_) bz10_58 rfl rfl (any_of HT_.out (by kernel_rfl)) (fun _ _ _ h => h) (Or.inl ⟨by rfl, ?_⟩) ?_ ?_
           rotate_left
           ·intro w'
            go_simp
            with_reducible rfl
           rotate_left
           ·simp only [Act.put, s0_, s1_, s2_, i64_w, i32_w]
            rfl
           refine pure_ (i := 59) (N := some 200) (v := ?_) (a' := ?_) bz10_59 rfl rfl (any_of HT_.out (by kernel_rfl)) (fun _ _ _ h => h) (Or.inl ⟨by rfl, ?_⟩) ?_ ?_
           rotate_left
           ·intro w'
            go_simp
            with_reducible rfl
           rotate_left
           ·simp only [Act.put, s0_, s1_, s2_, i64_w, i32_w]
            rfl
           refine pure_ (i := 60) (N := some 201) (v := ?_) (a' := ?_) bz10_60 rfl rfl (any_of HT_.out (by kernel_rfl)) (fun _ _ _ h => h) (Or.inl ⟨by rfl, ?_⟩) ?_ ?_
           rotate_left
           ·intro w'
            go_simp
            with_reducible rfl
           rotate_left
           ·simp only [Act.put, s0_, s1_, s2_, i64_w, i32_w]
            rfl
           refine take_ (i := 57) (N := some 198) (v := ?_) (a' := ?_) bz10_61 rfl rfl (take_ofW HT_.out HW_.out (by kernel_rfl)) (fun _ _ _ h => h) (Or.inl ⟨by rfl, ?_⟩) hHeld ?_ ?_
           rotate_left
           ·rintro w' ⟨s0, s1, s2, s3, s4, s5, s6, s7, s8, s9, s10⟩
            go_simp
            with_reducible rfl
           rotate_left
           ·simp only [Act.put, s0_, s1_, s2_, i64_w, i32_w]
            rfl
           refine pure_ (i := 61) (N := some 202) (v := ?_) (a' := ?_) bz10_62 rfl rfl (any_of HT_.out (by kernel_rfl)) (fun _ _ _ h => h) (Or.inl ⟨by rfl, ?_⟩) ?_ ?_
           rotate_left
           ·intro w'
            go_simp
            with_reducible rfl
           rotate_left
           ·simp only [Act.put, s0_, s1_, s2_, i64_w, i32_w]
            rfl
           refine pure_ (i := 62) (N := some 203) (v := ?_) (a' := ?_) bz10_63 rfl rfl (any_of HT_.out (by kernel_rfl)) (fun _ _ _ h => h) (Or.inl ⟨by rfl, ?_⟩) ?_ ?_
           rotate_left
           ·intro w'
            go_simp
            with_reducible rfl
           rotate_left
           ·simp only [Act.put, s0_, s1_, s2_, i64_w, i32_w]
            rfl
           refine pure_ (i := 63) (N := some 204) (v := ?_) (a' := ?_) bz10_64 rfl rfl (any_of HT_.out (by kernel_rfl)) (fun _ _ _ h => h) (Or.inl ⟨by rfl, ?_⟩) ?_ ?_
           rotate_left
           ·intro w'
            go_simp
            with_reducible rfl
           rotate_left
           ·simp only [Act.put, s0_, s1_, s2_, i64_w, i32_w]
            rfl
           refine pure_ (i := 64) (N := some 205) (v := ?_) (a' := ?_) bz10_65 rfl rfl (any_of HT_.out (by kernel_rfl)) (fun _ _ _ h => h) (Or.inl ⟨by rfl, ?_⟩) ?_ ?_
           rotate_left
           ·intro w'
            go_simp
            with_reducible rfl
           rotate_left
           ·simp only [Act.put, s0_, s1_, s2_, i64_w, i32_w]
            rfl
           refine pure_ (i := 65) (N := some 206) (v := ?_) (a' := ?_) bz10_66 rfl rfl (any_of HT_.out (by kernel_rfl)) (fun _ _ _ h => h) (Or.inl ⟨by rfl, ?_⟩) ?_ ?_
           rotate_left
           ·intro w'
            go_simp
            with_reducible rfl
           rotate_left
           ·simp only [Act.put, s0_, s1_, s2_, i64_w, i32_w]
            rfl
           refine pure_ (i := 67) (N := some 208) (v := ?_) (a' := ?_) bz10_67 rfl rfl (any_of HT_.out (by kernel_rfl)) (fun _ _ _ h => h) (Or.inl ⟨by rfl, ?_⟩) ?_ ?_
           rotate_left
           ·intro w'
            go_simp
            with_reducible rfl
           rotate_left
           ·simp only [Act.put, s0_, s1_, s2_, i64_w, i32_w]
            rfl
           refine pure_ (i := 68) (N := some 209) (v := ?_) (a' := ?_) bz10_68 rfl rfl (any_of HT_.out (by kernel_rfl)) (fun _ _ _ h => h) (Or.inl ⟨by rfl, ?_⟩) ?_ ?_
           rotate_left
           ·intro w'
            go_simp
            with_reducible rfl
           rotate_left
           ·simp only [Act.put, s0_, s1_, s2_, i64_w, i32_w]
            rfl
           refine pure_ (i := 71) (N := some 212) (v := ?_) (a' := ?_) bz10_69 rfl rfl (any_of HT_.out (by kernel_rfl)) (fun _ _ _ h => h) (Or.inl ⟨by rfl, ?_⟩) ?_ ?_
           rotate_left
           ·intro w'
            go_simp
            with_reducible rfl
           rotate_left
           ·simp only [Act.put, s0_, s1_, s2_, i64_w, i32_w]
            rfl
           refine pure_ (i := 72) (N := some 213) (v := ?_) (a' := ?_) bz10_70 rfl rfl (any_of HT_.out (by kernel_rfl)) (fun _ _ _ h => h) (Or.inl ⟨by rfl, ?_⟩) ?_ ?_
           rotate_left
           ·intro w'
            go_simp
            with_reducible rfl
           rotate_left
           ·simp only [Act.put, s0_, s1_, s2_, i64_w, i32_w]
            rfl
           refine pure_ (i := 73) (N := some 214) (v := ?_) (a' := ?_) bz10_71 rfl rfl (any_of HT_.out (by kernel_rfl)) (fun _ _ _ h => h) (Or.inl ⟨by rfl, ?_⟩) ?_ ?_
           rotate_left
           ·intro w'
            go_simp
            with_reducible rfl
           rotate_left
           ·simp only [Act.put, s0_, s1_, s2_, i64_w, i32_w]
            rfl
           refine take_ (i := 66) (N := some 207) (v := ?_) (a' := ?_) bz10_72 rfl rfl (take_ofW HT_.out HW_.out (by kernel_rfl)) (fun _ _ _ h => h) (Or.inl ⟨by rfl, ?_⟩) hHeld ?_ ?_
           rotate_left
           ·rintro w' ⟨s0, s1, s2, s3, s4, s5, s6, s7, s8, s9, s10⟩
            go_simp
            with_reducible rfl
           rotate_left
           ·simp only [Act.put, s0_, s1_, s2_, i64_w, i32_w]
            rfl
           refine take_ (i := 69) (N := some 210) (v := ?_) (a' := ?_) bz10_73 rfl rfl (take_ofW HT_.out HW_.out (by kernel_rfl)) (fun _ _ _ h => h) (Or.inl ⟨by rfl, ?_⟩) hHeld ?_ ?_
           rotate_left
           ·rintro w' ⟨s0, s1, s2, s3, s4, s5, s6, s7, s8, s9, s10⟩
            go_simp
            with_reducible rfl
           rotate_left
           ·simp only [Act.put, s0_, s1_, s2_, i64_w, i32_w]
            rfl
           refine pure_ (i := 70) (N := some 211) (v := ?_) (a' := ?_) bz10_74 rfl rfl (any_of HT_.out (by kernel_rfl)) (fun _ _ _ h => h) (Or.inl ⟨by rfl, ?_⟩) ?_ ?_
           rotate_left
           ·intro w'
            go_simp
            with_reducible rfl
           rotate_left
           ·simp only [Act.put, s0_, s1_, s2_, i64_w, i32_w]
            rfl
           refine pure_ (i := 74) (N := some 215) (v := ?_) (a' := ?_) bz10_75 rfl rfl (any_of HT_.out (by kernel_rfl)) (fun _ _ _ h => h) (Or.inl ⟨by rfl, ?_⟩) ?_ ?_
           rotate_left
           ·intro w'
            go_simp
            with_reducible rfl
           rotate_left
           ·simp only [Act.put, s0_, s1_, s2_, i64_w, i32_w]
            rfl
           refine pure_ (i := 75) (N := some 216) (v := ?_) (a' := ?_) bz10_76 rfl rfl (any_of HT_.out (by kernel_rfl)) (fun _ _ _ h => h) (Or.inl ⟨by rfl, ?_⟩) ?_ ?_
           rotate_left
           ·intro w'
            go_simp
            with_reducible rfl
           rotate_left
           ·simp only [Act.put, s0_, s1_, s2_, i64_w, i32_w]
            rfl
           refine pure_ (i := 76) (N := some 217) (v := ?_) (a' := ?_) bz10_77 rfl rfl (any_of HT_.out (by kernel_rfl)) (fun _ _ _ h => h) (Or.inl ⟨by rfl, ?_⟩) ?_ ?_
           rotate_left
           ·intro w'
            go_simp
            with_reducible rfl
           rotate_left
           ·simp only [Act.put, s0_, s1_, s2_, i64_w, i32_w]
            rfl
           refine pure_ (i := 77) (N := some 218) (v := ?_) (a' := ?_) bz10_78 rfl rfl (any_of HT_.out (by kernel_rfl)) (fun _ _ _ h => h) (Or.inl ⟨by rfl, ?_⟩) ?_ ?_
           rotate_left
           ·intro w'
            go_simp
            with_reducible rfl
           rotate_left
           ·simp only [Act.put, s0_, s1_, s2_, i64_w, i32_w]
            rfl
           refine pure_ (i := 78) (N := some 219) (v := ?_) (a' := ?_) bz10_79 rfl rfl (any_of HT_.out (by kernel_rfl)) (fun _ _ _ h => h) (Or.inl ⟨by rfl, ?_⟩) ?_ ?_
           rotate_left
           ·intro w'
            go_simp
            with_reducible rfl
           rotate_left
           ·simp only [Act.put, s0_, s1_, s2_, i64_w, i32_w]
            rfl
           refine pure_ (i := 80) (N := some 221) (v := ?_) (a' := ?_) bz10_80 rfl rfl (any_of HT_.out (by kernel_rfl)) (fun _ _ _ h => h) (Or.inl ⟨by rfl, ?_⟩) ?_ ?_
           rotate_left
           ·intro w'
            go_simp
            with_reducible rfl
           rotate_left
           ·simp only [Act.put, s0_, s1_, s2_, i64_w, i32_w]
            rfl
           refine pure_ (i := 81) (N := some 222) (v := ?_) (a' := ?_) bz10_81 rfl rfl (any_of HT_.out (by kernel_rfl)) (fun _ _ _ h => h) (Or.inl ⟨by rfl, ?_⟩) ?_ ?_
           rotate_left
           ·intro w'
            go_simp
            with_reducible rfl
           rotate_left
           ·simp only [Act.put, s0_, s1_, s2_, i64_w, i32_w]
            rfl
           refine pure_ (i := 84) (N := some 225) (v := ?_) (a' := ?_) bz10_82 rfl rfl (any_of HT_.out (by kernel_rfl)) (fun _ _ _ h => h) (Or.inl ⟨by rfl, ?_⟩) ?_ ?_
           rotate_left
           ·intro w'
            go_simp
            with_reducible rfl
           rotate_left
           ·simp only [Act.put, s0_, s1_, s2_, i64_w, i32_w]
            rfl
           refine pure_ (i := 85) (N := some 226) (v := ?_) (a' := ?_) bz10_83 rfl rfl (any_of HT_.out (by kernel_rfl)) (fun _ _ _ h => h) (Or.inl ⟨by rfl, ?_⟩) ?_ ?_
           rotate_left
           ·intro w'
            go_simp
            with_reducible rfl
           rotate_left
           ·simp only [Act.put, s0_, s1_, s2_, i64_w, i32_w]
            rfl
           refine pure_ (i := 86) (N := some 227) (v := ?_) (a' := ?_) bz10_84 rfl rfl (any_of HT_.out (by kernel_rfl)) (fun _ _ _ h => h) (Or.inl ⟨by rfl, ?_⟩) ?_ ?_
           rotate_left
           ·intro w'
            go_simp
            with_reducible rfl
           rotate_left
           ·simp only [Act.put, s0_, s1_, s2_, i64_w, i32_w]
            rfl
           refine take_ (i := 79) (N := some 220) (v := ?_) (a' := ?_) bz10_85 rfl rfl (take_ofW HT_.out HW_.out (by kernel_rfl)) (fun _ _ _ h => h) (Or.inl ⟨by rfl, ?_⟩) hHeld ?_ ?_
           rotate_left
           ·rintro w' ⟨s0, s1, s2, s3, s4, s5, s6, s7, s8, s9, s10⟩
            go_simp
            with_reducible rfl
           rotate_left
           ·simp only [Act.put, s0_, s1_, s2_, i64_w, i32_w]
            rfl
           refine take_ (i := 82) (N := some 223) (v := ?_) (a' := ?_) bz10_86 rfl rfl (take_ofW HT_.out HW_.out (by kernel_rfl)) (fun _ _ _ h => h) (Or.inl ⟨by rfl, ?_⟩) hHeld ?_ ?_
           rotate_left
           ·rintro w' ⟨s0, s1, s2, s3, s4, s5, s6, s7, s8, s9, s10⟩
            go_simp
            with_reducible rfl
           rotate_left
           ·simp only [Act.put, s0_, s1_, s2_, i64_w, i32_w]
            rfl
           refine pure_ (i := 83) (N := some 224) (v := ?_) (a' := ?_) bz10_87 rfl rfl (any_of HT_.out (by kernel_rfl)) (fun _ _ _ h => h) (Or.inl ⟨by rfl, ?_⟩) ?_ ?_
           rotate_left
           ·intro w'
            go_simp
            with_reducible rfl
           rotate_left
           ·simp only [Act.put, s0_, s1_, s2_, i64_w, i32_w]
            rfl
           refine pure_ (i := 87) (N := some 228) (v := ?_) (a' := ?_) bz10_88 rfl rfl (any_of HT_.out (by kernel_rfl)) (fun _ _ _ h => h) (Or.inl ⟨by rfl, ?_⟩) ?_ ?_
           rotate_left
           ·intro w'
            go_simp
            with_reducible rfl
           rotate_left
           ·simp only [Act.put, s0_, s1_, s2_, i64_w, i32_w]
            rfl
           refine pure_ (i := 88) (N := some 229) (v := ?_) (a' := ?_) bz10_89 rfl rfl (any_of HT_.out (by kernel_rfl)) (fun _ _ _ h => h) (Or.inl ⟨by rfl, ?_⟩) ?_ ?_
           rotate_left
           ·intro w'
            go_simp
            with_reducible rfl
           rotate_left
           ·simp only [Act.put, s0_, s1_, s2_, i64_w, i32_w]
            rfl
           refine pure_ (i := 89) (N := some 230) (v := ?_) (a' := ?_) bz10_90 rfl rfl (any_of HT_.out (by kernel_rfl)) (fun _ _ _ h => h) (Or.inl ⟨by rfl, ?_⟩) ?_ ?_
           rotate_left
           ·intro w'
            go_simp
            with_reducible rfl
           rotate_left
           ·simp only [Act.put, s0_, s1_, s2_, i64_w, i32_w]
            rfl
           refine pure_ (i := 90) (N := some 231) (v := ?_) (a' := ?_) bz10_91 rfl rfl (any_of HT_.out (by kernel_rfl)) (fun _ _ _ h => h) (Or.inl ⟨by rfl, ?_⟩) ?_ ?_
           rotate_left
           ·intro w'
            go_simp
            with_reducible rfl
           rotate_left
           ·simp only [Act.put, s0_, s1_, s2_, i64_w, i32_w]
            rfl
           refine pure_ (i := 91) (N := some 232) (v := ?_) (a' := ?_) bz10_92 rfl rfl (any_of HT_.out (by kernel_rfl)) (fun _ _ _ h => h) (Or.inl ⟨by rfl, ?_⟩) ?_ ?_
           rotate_left
           ·intro w'
            go_simp
            with_reducible rfl
           rotate_left
           ·simp only [Act.put, s0_, s1_, s2_, i64_w, i32_w]
            rfl
           refine pure_ (i := 93) (N := some 234) (v := ?_) (a' := ?_) bz10_93 rfl rfl (any_of HT_.out (by kernel_rfl)) (fun _ _ _ h => h) (Or.inl ⟨by rfl, ?_⟩) ?_ ?_
           rotate_left
           ·intro w'
            go_simp
            with_reducible rfl
           rotate_left
           ·simp only [Act.put, s0_, s1_, s2_, i64_w, i32_w]
            rfl
           refine pure_ (i := 94) (N := some 235) (v := ?_) (a' := ?_) bz10_94 rfl rfl (any_of HT_.out (by kernel_rfl)) (fun _ _ _ h => h) (Or.inl ⟨by rfl, ?_⟩) ?_ ?_
           rotate_left
           ·intro w'
            go_simp
            with_reducible rfl
           rotate_left
           ·simp only [Act.put, s0_, s1_, s2_, i64_w, i32_w]
            rfl
           refine pure_ (i := 97) (N := some 238) (v := ?_) (a' := ?_) bz10_95 rfl rfl (any_of HT_.out (by kernel_rfl)) (fun _ _ _ h => h) (Or.inl ⟨by rfl, ?_⟩) ?_ ?_
           rotate_left
           ·intro w'
            go_simp
            with_reducible rfl
           rotate_left
           ·simp only [Act.put, s0_, s1_, s2_, i64_w, i32_w]
            rfl
           refine pure_ (i := 98) (N := some 239) (v := ?_) (a' := ?_) bz10_96 rfl rfl (any_of HT_.out (by kernel_rfl)) (fun _ _ _ h => h) (Or.inl ⟨by rfl, ?_⟩) ?_ ?_
           rotate_left
           ·intro w'
            go_simp
            with_reducible rfl
           rotate_left
           ·simp only [Act.put, s0_, s1_, s2_, i64_w, i32_w]
            rfl
           refine take_ (i := 92) (N := some 233) (v := ?_) (a' := ?_) bz10_97 rfl rfl (take_ofW HT_.out HW_.out (by kernel_rfl)) (fun _ _ _ h => h) (Or.inl ⟨by rfl, ?_⟩) hHeld ?_ ?_
           rotate_left
           ·rintro w' ⟨s0, s1, s2, s3, s4, s5, s6, s7, s8, s9, s10⟩
            go_simp
            with_reducible rfl
           rotate_left
           ·simp only [Act.put, s0_, s1_, s2_, i64_w, i32_w]
            rfl
           refine take_ (i := 95) (N := some 236) (v := ?_) (a' := ?_) bz10_98 rfl rfl (take_ofW HT_.out HW_.out (by kernel_rfl)) (fun _ _ _ h => h) (Or.inl ⟨by rfl, ?_⟩) hHeld ?_ ?_
           rotate_left
           ·rintro w' ⟨s0, s1, s2, s3, s4, s5, s6, s7, s8, s9, s10⟩
            go_simp
            with_reducible rfl
           rotate_left
           ·simp only [Act.put, s0_, s1_, s2_, i64_w, i32_w]
            rfl
           refine pure_ (i := 96) (N := some 237) (v := ?_) (a' := ?_) bz10_99 rfl rfl (any_of HT_.out (by kernel_rfl)) (fun _ _ _ h => h) (Or.inl ⟨by rfl, ?_⟩) ?_ ?_
           rotate_left
           ·intro w'
            go_simp
            with_reducible rfl
           rotate_left
           ·simp only [Act.put, s0_, s1_, s2_, i64_w, i32_w]
            rfl
           refine pure_ (i := 99) (N := some 240) (v := ?_) (a' := ?_) bz10_100 rfl rfl (any_of HT_.out (by kernel_rfl)) (fun _ _ _ h => h) (Or.inl ⟨by rfl, ?_⟩) ?_ ?_
           rotate_left
           ·intro w'
            go_simp
            with_reducible rfl
           rotate_left
           ·simp only [Act.put, s0_, s1_, s2_, i64_w, i32_w]
            rfl
           refine pure_ (i := 100) (N := some 241) (v := ?_) (a' := ?_) bz10_101 rfl rfl (any_of HT_.out (by kernel_rfl)) (fun _ _ _ h => h) (Or.inl ⟨by rfl, ?_⟩) ?_ ?_
           rotate_left
           ·intro w'
            go_simp
            with_reducible rfl
           rotate_left
           ·simp only [Act.put, s0_, s1_, s2_, i64_w, i32_w]
            rfl
           refine done_ (done_of HT_.out (by kernel_rfl)) ?_
           try go_wp2
           go_meet
           case rel => exact ⟨_, (((wrap64 ((rd t313 3) - (rd t313 2))) != (wrap64 ((wrap64 (1 + t302)) - 1)))), (by first | rfl | (simp; done) | (simp [*]; done)), H', ⟨by have := HJ10.out; have := HK2.out; first | omega | exact Nat.le_refl _⟩, ⟨by (with_reducible repeat (first | apply Kd.R_alloc | apply Kd.R_drewN | apply Kd.R_drew)); exact Kd.R_mono HO_299001.out (fun _ hk => hk.1)⟩, ⟨by (with_reducible repeat (first | apply Kd.R_alloc | apply Kd.R_drewN | apply Kd.R_drew)); exact Kd.R_mono HO_299002.out (fun _ hk => hk.1)⟩, ⟨by (with_reducible repeat (first | refine blk_drewN ?_ _ | refine blk_drew ?_ | refine blk_alloc ?_ _)); exact BK298.out⟩, ⟨by repeat (first | (with_reducible first | exact HB.out | apply below_alloc | apply pw_below_drewN | apply below_drew1 | refine below_set ?_ GE298.out) | exact HB.out)⟩⟩
          rw [if_pos c60] at H
          cases H
         rw [if_pos c55] at H
         cases H
        case rest => as_aux_lemma =>
         clear HC45
         try clear p2
         try clear c5
         try clear c54
         try clear c54b0
         try clear c54b1
         obtain ⟨kq, x241_44, rfl, HA, HJ44, HO_299001, HO_299002, BK298, HB⟩ := hcut
         cases kq with
         | zero => exact absurd HA.out (by simp [laws_FnCadences.j2])
         | succ kj44 =>
          have H := HA.out
          clear HA
          simp only [laws_FnCadences.j2] at H
          by_cases c115 : x241_44 = true
          rotate_left
          ·replace c115 := Bool.eq_false_iff.mpr c115
           subst c115
           have H1 : (laws_FnCadences.l1 kj44 (wrap64 (1 + t301)) (wrap64 (t299 * (wrap64 (1 + t301)))) 0 0 t291 t292 t295) = some r := by rw [if_neg (show ¬ (false = true) by decide)] at H; exact H
           clear H
           have H := H1
           clear H1
           have H' := Aside0.mk H
           clear H
           go_wp2
           go_loopg [23, 24] kj44 (fun kq v23 v24 w' => ∃ (x23_4 : Int) (x24_4 : Int), v23 = .int .i64 x23_4 ∧ v24 = .int .i64 x24_4 ∧ Aside0 (laws_FnCadences.l1 kq (wrap64 (1 + t301)) (wrap64 (t299 * (wrap64 (1 + t301)))) x23_4 x24_4 t291 t292 t295 = some r) ∧ Aside0 (kq ≤ kj44) ∧ Aside0 (Kd.R (Kd.int .i64) 2 w' w.heap.size (fun k_ => some k_ ≠ ((.slice Ao16 t295.length co16) : Value).ownBlock) (.slice Ao15 t292.length co15) t292) ∧ Aside0 (Kd.R (Kd.int .i64) 2 w' w.heap.size (fun k_ => some k_ ≠ ((.slice Ao15 t292.length co15) : Value).ownBlock) (.slice Ao16 t295.length co16) t295) ∧ Aside0 (w'.heap[gb298]? = some (.cells #[.string t291, (.slice Ao15 t292.length co15), (.slice Ao16 t295.length co16)] 26 (0, 0))) ∧ Aside0 (Below w.heap.size w w'))
           case atStart => exact ⟨(0), (0), (by first | rfl | (simp; done) | (simp [*]; done)), (by first | rfl | (simp; done) | (simp [*]; done)), H', ⟨Nat.le_refl _⟩, ⟨by (with_reducible repeat (first | apply Kd.R_alloc | apply Kd.R_drewN | apply Kd.R_drew)); exact HO_299001.out⟩, ⟨by (with_reducible repeat (first | apply Kd.R_alloc | apply Kd.R_drewN | apply Kd.R_drew)); exact HO_299002.out⟩, ⟨by (with_reducible repeat (first | refine blk_drewN ?_ _ | refine blk_drew ?_ | refine blk_alloc ?_ _)); exact BK298.out⟩, ⟨by repeat (first | (with_reducible first | exact HB.out | apply below_alloc | apply pw_below_drewN | apply below_drew1 | refine below_set ?_ GE298.out) | exact HB.out)⟩⟩
           case round => as_aux_lemma =>
            clear H'
            try clear c1
            try clear p2
            try clear c5
            try clear p6
            try clear c11
            try clear c54
            try clear c54b0
            try clear c54b1
            try clear p64
            try clear c115
            try clear p2
            obtain ⟨x23_4, x24_4, rfl, rfl, HA, HK4, HO_299001, HO_299002, BK298, HB⟩ := hrel
            cases gk with
            | zero => exact absurd HA.out (by simp [laws_FnCadences.l1])
            | succ k4 =>
             have H := HA.out
             clear HA
             simp only [laws_FnCadences.l1] at H
             by_cases c116 : x24_4 < (wrap64 (t299 * (wrap64 (1 + t301))))
             rotate_left
             ·rw [if_neg c116] at H
              have c116b0 : decide (x24_4 < (wrap64 (t299 * (wrap64 (1 + t301))))) = false := decide_eq_false c116
              clear c116
              obtain rfl := Option.some.inj H
              go_wp2
              go_ret
              exact ⟨by first | rfl | (simp [errW_none, errW_some] <;> rfl) | (simp [*, errW_none, errW_some] <;> rfl), by repeat (first | (with_reducible first | exact HB.out | apply below_alloc | apply pw_below_drewN | apply below_drew1 | refine below_set ?_ GE298.out) | exact HB.out)⟩
             rw [if_pos c116] at H
             have c116b0 : decide (x24_4 < (wrap64 (t299 * (wrap64 (1 + t301))))) = true := decide_eq_true c116
             clear c116
             replace H := Option.bind_eq_some_iff.mp H
             obtain ⟨⟨t329, t330⟩, A1170, H⟩ := H
             replace H : ((impl_ListCadences.f k4 t291 t292 t295 (wrap64 (1 + t301)) x24_4 6 3).bind fun bt331 => (if t330 = 0 then (if bt331.2 = 0 then (laws_FnCadences.j4 k4 (wrap64 (1 + t301)) (wrap64 (t299 * (wrap64 (1 + t301)))) x23_4 x24_4 t329 bt331.1 ((bt331.1.length : Int) != t329) t291 t292 t295) else (none)) else (none))) = some r := H
             have A117 := Aside0.mk A1170
             clear A1170
             replace H := Option.bind_eq_some_iff.mp H
             obtain ⟨⟨t331, t334⟩, A1180, H⟩ := H
             replace H : (if t330 = 0 then (if t334 = 0 then (laws_FnCadences.j4 k4 (wrap64 (1 + t301)) (wrap64 (t299 * (wrap64 (1 + t301)))) x23_4 x24_4 t329 t331 ((t331.length : Int) != t329) t291 t292 t295) else (none)) else (none)) = some r := H
             have A118 := Aside0.mk A1180
             clear A1180
             have HC119 := Aside0.mk H
             clear H
             have hcz120_0 : wr.cell? ⟨gb298, 0, none⟩ = some (.string t291) := (blk_cell BK298.out 0).trans rfl
             have hcz120_1 : wr.cell? ⟨gb298, 1, none⟩ = some (.slice Ao15 t292.length co15) := (blk_cell BK298.out 1).trans rfl
             have hcz120_2 : wr.cell? ⟨gb298, 2, none⟩ = some (.slice Ao16 t295.length co16) := (blk_cell BK298.out 2).trans rfl
             have hfz120_0 := blk_frozen BK298.out 0
             have hfz120_1 := blk_frozen BK298.out 1
             have hfz120_2 := blk_frozen BK298.out 2
             go_upto_region 29 with (first | ((with_reducible refine gate_callee (f := 17) rfl ?_); refine goesL_ (some 251) rfl rfl Try.func17 (by kernel_rfl) rfl #[.agg #[.string t291, .slice Ao15 t292.length co15, .slice Ao16 t295.length co16], .int .i64 (wrap64 (1 + t301)), .int .i64 x24_4, .int .i64 6, .int .i64 3] rfl (by (try simp only [List.map_toArray, List.map_cons, List.map_nil]); first | done | rfl | (simp only [List.length_drop, List.length_take]; rfl)) ?_; (with_reducible refine (impl_CountCadences.calls k4 t291 _ _ t292 _ _ t295 (wrap64 (1 + t301)) x24_4 6 3 t329 t330 _ ?side1 ?side2 ?side3 ?side4 A117.out).mono ?_); (case side1 => repeat (first | exact (Kd.R_reads' HO_299001.out).2.2 | (with_reducible refine Kd.C_alloc ?_ _) | (with_reducible refine Kd.C_drewN ?_ _) | (with_reducible refine Kd.C_drew ?_))); (case side2 => exact (Kd.R_reads' HO_299001.out).2.1); (case side3 => repeat (first | exact (Kd.R_reads' HO_299002.out).2.2 | (with_reducible refine Kd.C_alloc ?_ _) | (with_reducible refine Kd.C_drewN ?_ _) | (with_reducible refine Kd.C_drew ?_))); (case side4 => exact (Kd.R_reads' HO_299002.out).2.1); rintro e w121 ⟨rfl, hb⟩; refine ⟨_, rfl, ?_⟩; have n0_ := Aside0.mk (Kd.R_below (by (with_reducible repeat (first | apply Kd.R_alloc | apply Kd.R_drewN | apply Kd.R_drew)); exact HO_299001.out) hb); have n1_ := Aside0.mk (Kd.R_below (by (with_reducible repeat (first | apply Kd.R_alloc | apply Kd.R_drewN | apply Kd.R_drew)); exact HO_299002.out) hb); have n2_ := Aside0.mk (blk_below (g := gb298) (o := .cells #[.string t291, .slice Ao15 t292.length co15, .slice Ao16 t295.length co16] 26 (0, 0)) (by (with_reducible repeat (first | refine blk_drewN ?_ _ | refine blk_drew ?_ | refine blk_alloc ?_ _)); exact BK298.out) hb); have n3_ := Aside0.mk (below_step (by repeat (first | (with_reducible first | exact HB.out | apply below_alloc | apply pw_below_drewN | apply below_drew1 | refine below_set ?_ GE298.out) | exact HB.out)) hb); clear HO_299001; clear HO_299002; clear BK298; clear HB; have HO_299001 := n0_; have HO_299002 := n1_; have BK298 := n2_; have HB := n3_; clear n0_ n1_ n2_ n3_; (try clear hb); (try clear hb2); (try clear hk); (try clear hi); have hcz122_0 : w121.cell? ⟨gb298, 0, none⟩ = some (.string t291) := (blk_cell BK298.out 0).trans rfl; have hcz122_1 : w121.cell? ⟨gb298, 1, none⟩ = some (.slice Ao15 t292.length co15) := (blk_cell BK298.out 1).trans rfl; have hcz122_2 : w121.cell? ⟨gb298, 2, none⟩ = some (.slice Ao16 t295.length co16) := (blk_cell BK298.out 2).trans rfl; have hfz122_0 := blk_frozen BK298.out 0; have hfz122_1 := blk_frozen BK298.out 1; have hfz122_2 := blk_frozen BK298.out 2) | ((with_reducible refine gate_callee (f := 18) rfl ?_); refine goesL_ (some 258) rfl rfl Try.func18 (by kernel_rfl) rfl #[.agg #[.string t291, .slice Ao15 t292.length co15, .slice Ao16 t295.length co16], .int .i64 (wrap64 (1 + t301)), .int .i64 x24_4, .int .i64 6, .int .i64 3] rfl (by (try simp only [List.map_toArray, List.map_cons, List.map_nil]); first | done | rfl | (simp only [List.length_drop, List.length_take]; rfl)) ?_; (with_reducible refine (impl_ListCadences.calls k4 t291 _ _ t292 _ _ t295 (wrap64 (1 + t301)) x24_4 6 3 t331 t334 _ ?side1 ?side2 ?side3 ?side4 A118.out).mono ?_); (case side1 => repeat (first | exact (Kd.R_reads' HO_299001.out).2.2 | (with_reducible refine Kd.C_alloc ?_ _) | (with_reducible refine Kd.C_drewN ?_ _) | (with_reducible refine Kd.C_drew ?_))); (case side2 => exact (Kd.R_reads' HO_299001.out).2.1); (case side3 => repeat (first | exact (Kd.R_reads' HO_299002.out).2.2 | (with_reducible refine Kd.C_alloc ?_ _) | (with_reducible refine Kd.C_drewN ?_ _) | (with_reducible refine Kd.C_drew ?_))); (case side4 => exact (Kd.R_reads' HO_299002.out).2.1); rintro e w123 ⟨v332, rfl, ho0, hb⟩; refine ⟨_, rfl, ?_⟩; have n0_ := Aside0.mk (Kd.R_below (by (with_reducible repeat (first | apply Kd.R_alloc | apply Kd.R_drewN | apply Kd.R_drew)); exact HO_299001.out) hb); have n1_ := Aside0.mk (Kd.R_below (by (with_reducible repeat (first | apply Kd.R_alloc | apply Kd.R_drewN | apply Kd.R_drew)); exact HO_299002.out) hb); have n2_ := Aside0.mk (Kd.S_lower (Kd.S_new' (Kd.S_new' ho0 (Kd.R_lt (by (with_reducible repeat (first | apply Kd.R_alloc | apply Kd.R_drewN | apply Kd.R_drew)); exact HO_299001.out))) (Kd.R_lt (by (with_reducible repeat (first | apply Kd.R_alloc | apply Kd.R_drewN | apply Kd.R_drew)); exact HO_299002.out))) (below_size (by repeat (first | (with_reducible first | exact HB.out | apply below_alloc | apply pw_below_drewN | apply below_drew1 | refine below_set ?_ GE298.out) | exact HB.out)))); have n3_ := Aside0.mk (blk_below (g := gb298) (o := .cells #[.string t291, .slice Ao15 t292.length co15, .slice Ao16 t295.length co16] 26 (0, 0)) (by (with_reducible repeat (first | refine blk_drewN ?_ _ | refine blk_drew ?_ | refine blk_alloc ?_ _)); exact BK298.out) hb); have n4_ := Aside0.mk (below_step (by repeat (first | (with_reducible first | exact HB.out | apply below_alloc | apply pw_below_drewN | apply below_drew1 | refine below_set ?_ GE298.out) | exact HB.out)) hb); clear HO_299001; clear HO_299002; clear BK298; clear HB; have HO_299001 := n0_; have HO_299002 := n1_; have HO333 := n2_; have BK298 := n3_; have HB := n4_; clear n0_ n1_ n2_ n3_ n4_; (try clear hb); (try clear hb2); (try clear hk); (try clear hi); (try clear ho0)))
             (try simp only [Act.put, s0_, s1_, s2_])
             go_cut [272] (fun v272 wc => ∃ (kq : Nat) (x272_118 : Bool), v272 = .bool x272_118 ∧ Aside0 (laws_FnCadences.j4 kq (wrap64 (1 + t301)) (wrap64 (t299 * (wrap64 (1 + t301)))) x23_4 x24_4 t329 t331 x272_118 t291 t292 t295 = some r) ∧ Aside0 (kq ≤ k4) ∧ Aside0 (Kd.S (Kd.slice 2 (Kd.int .i64)) 24 wc w.heap.size (fun k_ => some k_ ≠ ((.slice Ao15 t292.length co15) : Value).ownBlock ∧ some k_ ≠ ((.slice Ao16 t295.length co16) : Value).ownBlock) v332 t331) ∧ Aside0 (Kd.R (Kd.int .i64) 2 wc w.heap.size (fun k_ => some k_ ≠ ((.slice Ao16 t295.length co16) : Value).ownBlock) (.slice Ao15 t292.length co15) t292) ∧ Aside0 (Kd.R (Kd.int .i64) 2 wc w.heap.size (fun k_ => some k_ ≠ ((.slice Ao15 t292.length co15) : Value).ownBlock) (.slice Ao16 t295.length co16) t295) ∧ Aside0 (wc.heap[gb298]? = some (.cells #[.string t291, (.slice Ao15 t292.length co15), (.slice Ao16 t295.length co16)] 26 (0, 0))) ∧ Aside0 (Below w.heap.size w wc))
             case first =>
              have H := HC119.out
              clear HC119
              by_cases c124 : t330 = 0
              rotate_left
              ·rw [if_neg c124] at H
               cases H
              rw [if_pos c124] at H
              have c124b0 : (t330 == 0) = true := beq_iff_eq.mpr c124
              have c124b1 : (t330 != 0) = false := bne_eq_false_iff_eq.mpr c124
              clear c124
              (first | rw [c124b0] | (simp only [i64_w, i32_w]; rw [c124b0]) | skip)
              by_cases c125 : t334 = 0
              rotate_left
              ·rw [if_neg c125] at H
               cases H
              rw [if_pos c125] at H
              have c125b0 : (t334 == 0) = true := beq_iff_eq.mpr c125
              have c125b1 : (t334 != 0) = false := bne_eq_false_iff_eq.mpr c125
              clear c125
              have H' := Aside0.mk H
              clear H
              obtain ⟨Ao126, co126, eo126⟩ := Kd.S_slice HO333.out
              subst eo126
              go_wp2
              go_meet
              case rel => exact ⟨_, (((t331.length : Int) != t329)), (by first | rfl | (simp; done) | (simp [*]; done)), H', ⟨by have := HJ10.out; have := HK2.out; have := HJ44.out; have := HK4.out; first | omega | exact Nat.le_refl _⟩, ⟨by (with_reducible repeat (first | apply Kd.S_alloc | apply Kd.S_drewN | apply Kd.S_drew)); exact Kd.S_mono HO333.out (fun _ hk => ⟨hk.1.2, hk.2⟩)⟩, ⟨by (with_reducible repeat (first | apply Kd.R_alloc | apply Kd.R_drewN | apply Kd.R_drew)); exact HO_299001.out⟩, ⟨by (with_reducible repeat (first | apply Kd.R_alloc | apply Kd.R_drewN | apply Kd.R_drew)); exact HO_299002.out⟩, ⟨by (with_reducible repeat (first | refine blk_drewN ?_ _ | refine blk_drew ?_ | refine blk_alloc ?_ _)); exact BK298.out⟩, ⟨by repeat (first | (with_reducible first | exact HB.out | apply below_alloc | apply pw_below_drewN | apply below_drew1 | refine below_set ?_ GE298.out) | exact HB.out)⟩⟩
             case rest => as_aux_lemma =>
              clear HC119
              try clear c1
              try clear p2
              try clear c5
              try clear p6
              try clear c11
              try clear c12
              try clear c17
              try clear c18
              try clear c54
              try clear c54b0
              try clear c54b1
              try clear p64
              try clear c115
              try clear c116
              try clear c116b0
              try clear c124
              try clear c124b0
              try clear c124b1
              try clear c125
              try clear c125b0
              try clear c125b1
              try clear hcz120_0
              try clear hcz120_1
              try clear hcz120_2
              try clear hcz122_0
              try clear hcz122_1
              try clear hcz122_2
              try clear hfz120_0
              try clear hfz120_1
              try clear hfz120_2
              try clear hfz122_0
              try clear hfz122_1
              try clear hfz122_2
              try clear p2
              try clear p6
              try clear p64
              obtain ⟨kq, x272_118, rfl, HA, HJ118, HO_27, HO_299001, HO_299002, BK298, HB⟩ := hcut
              cases kq with
              | zero => exact absurd HA.out (by simp [laws_FnCadences.j4])
              | succ kj118 =>
               have H := HA.out
               clear HA
               simp only [laws_FnCadences.j4] at H
               by_cases c127 : x272_118 = true
               rotate_left
               ·replace c127 := Bool.eq_false_iff.mpr c127
                subst c127
                have H1 : (laws_FnCadences.l2 kj118 (wrap64 (1 + t301)) (wrap64 (t299 * (wrap64 (1 + t301)))) x23_4 x24_4 t329 t331 0 t291 t292 t295) = some r := by rw [if_neg (show ¬ (false = true) by decide)] at H; exact H
                clear H
                have H := H1
                clear H1
                have H' := Aside0.mk H
                clear H
                go_wp2
                go_loopg [29] kj118 (fun kq v29 w' => ∃ (x29_6 : Int), v29 = .int .i64 x29_6 ∧ Aside0 (laws_FnCadences.l2 kq (wrap64 (1 + t301)) (wrap64 (t299 * (wrap64 (1 + t301)))) x23_4 x24_4 t329 t331 x29_6 t291 t292 t295 = some r) ∧ Aside0 (kq ≤ kj118) ∧ Aside0 (Kd.S (Kd.slice 2 (Kd.int .i64)) 24 w' w.heap.size (fun k_ => some k_ ≠ ((.slice Ao15 t292.length co15) : Value).ownBlock ∧ some k_ ≠ ((.slice Ao16 t295.length co16) : Value).ownBlock) v332 t331) ∧ Aside0 (Kd.R (Kd.int .i64) 2 w' w.heap.size (fun k_ => some k_ ≠ ((.slice Ao16 t295.length co16) : Value).ownBlock) (.slice Ao15 t292.length co15) t292) ∧ Aside0 (Kd.R (Kd.int .i64) 2 w' w.heap.size (fun k_ => some k_ ≠ ((.slice Ao15 t292.length co15) : Value).ownBlock) (.slice Ao16 t295.length co16) t295) ∧ Aside0 (w'.heap[gb298]? = some (.cells #[.string t291, (.slice Ao15 t292.length co15), (.slice Ao16 t295.length co16)] 26 (0, 0))) ∧ Aside0 (Below w.heap.size w w'))
                case atStart => exact ⟨(0), (by first | rfl | (simp; done) | (simp [*]; done)), H', ⟨Nat.le_refl _⟩, ⟨by (with_reducible repeat (first | apply Kd.S_alloc | apply Kd.S_drewN | apply Kd.S_drew)); exact HO_27.out⟩, ⟨by (with_reducible repeat (first | apply Kd.R_alloc | apply Kd.R_drewN | apply Kd.R_drew)); exact HO_299001.out⟩, ⟨by (with_reducible repeat (first | apply Kd.R_alloc | apply Kd.R_drewN | apply Kd.R_drew)); exact HO_299002.out⟩, ⟨by (with_reducible repeat (first | refine blk_drewN ?_ _ | refine blk_drew ?_ | refine blk_alloc ?_ _)); exact BK298.out⟩, ⟨by repeat (first | (with_reducible first | exact HB.out | apply below_alloc | apply pw_below_drewN | apply below_drew1 | refine below_set ?_ GE298.out) | exact HB.out)⟩⟩
                case round => as_aux_lemma =>
                 clear H'
                 try clear c1
                 try clear p2
                 try clear c5
                 try clear p6
                 try clear c11
                 try clear c12
                 try clear c17
                 try clear c18
                 try clear c54
                 try clear c54b0
                 try clear c54b1
                 try clear p64
                 try clear c115
                 try clear c116
                 try clear c116b0
                 try clear c124
                 try clear c124b0
                 try clear c124b1
                 try clear c125
                 try clear c125b0
                 try clear c125b1
                 try clear c127
                 try clear hcz120_0
                 try clear hcz120_1
                 try clear hcz120_2
                 try clear hcz122_0
                 try clear hcz122_1
                 try clear hcz122_2
                 try clear hfz120_0
                 try clear hfz120_1
                 try clear hfz120_2
                 try clear hfz122_0
                 try clear hfz122_1
                 try clear hfz122_2
                 try clear p2
                 try clear p6
                 try clear p64
                 obtain ⟨x29_6, rfl, HA, HK6, HO_27, HO_299001, HO_299002, BK298, HB⟩ := hrel
                 cases gk with
                 | zero => exact absurd HA.out (by simp [laws_FnCadences.l2])
                 | succ k6 =>
                  have H := HA.out
                  clear HA
                  simp only [laws_FnCadences.l2] at H
                  by_cases c128 : x29_6 < (t331.length : Int)
                  rotate_left
                  ·rw [if_neg c128] at H
                   have c128b0 : decide (x29_6 < (t331.length : Int)) = false := decide_eq_false c128
                   clear c128
                   have H' := Aside0.mk H
                   clear H
                   obtain ⟨Ao143, co143, eo143⟩ := Kd.S_slice HO_27.out
                   subst eo143
                   go_wp2
                   go_roundg k6
                   case measure => have := HJ10.out; have := HK2.out; have := HJ44.out; have := HK4.out; have := HJ118.out; have := HK6.out; omega
                   case rel => exact ⟨(wrap64 (x23_4 + t329)), (wrap64 (x24_4 + 1)), (by first | rfl | (simp; done) | (simp [*]; done)), (by first | rfl | (simp; done) | (simp [*]; done)), H', ⟨by have := HJ10.out; have := HK2.out; have := HJ44.out; have := HK4.out; have := HJ118.out; have := HK6.out; omega⟩, ⟨by (with_reducible repeat (first | apply Kd.R_alloc | apply Kd.R_drewN | apply Kd.R_drew)); exact HO_299001.out⟩, ⟨by (with_reducible repeat (first | apply Kd.R_alloc | apply Kd.R_drewN | apply Kd.R_drew)); exact HO_299002.out⟩, ⟨by (with_reducible repeat (first | refine blk_drewN ?_ _ | refine blk_drew ?_ | refine blk_alloc ?_ _)); exact BK298.out⟩, ⟨by repeat (first | (with_reducible first | exact HB.out | apply below_alloc | apply pw_below_drewN | apply below_drew1 | refine below_set ?_ GE298.out) | exact HB.out)⟩⟩
                  rw [if_pos c128] at H
                  have c128b0 : decide (x29_6 < (t331.length : Int)) = true := decide_eq_true c128
                  clear c128
                  by_cases c129 : 0 ≤ x29_6
                  rotate_left
                  ·rw [if_neg c129] at H
                   cases H
                  rw [if_pos c129] at H
                  have c129b0 : decide (0 ≤ x29_6) = true := decide_eq_true c129
                  clear c129
                  by_cases c130 : ((rd_L3 t331 x29_6).length : Int) = 2
                  rotate_left
                  ·rw [if_neg c130] at H
                   cases H
                  rw [if_pos c130] at H
                  have c130b0 : (((rd_L3 t331 x29_6).length : Int) == 2) = true := beq_iff_eq.mpr c130
                  have c130b1 : (((rd_L3 t331 x29_6).length : Int) != 2) = false := bne_eq_false_iff_eq.mpr c130
                  clear c130
                  by_cases c131 : 0 < ((rd_L3 t331 x29_6).length : Int)
                  rotate_left
                  ·rw [if_neg c131] at H
                   cases H
                  rw [if_pos c131] at H
                  have c131b0 : decide (0 < ((rd_L3 t331 x29_6).length : Int)) = true := decide_eq_true c131
                  have c131b1 : decide (0 < (rd_L3 t331 x29_6).length) = true := decide_eq_true (by omega)
                  clear c131
                  by_cases c132 : 1 < ((rd_L3 t331 x29_6).length : Int)
                  rotate_left
                  ·rw [if_neg c132] at H
                   cases H
                  rw [if_pos c132] at H
                  have c132b0 : decide (1 < ((rd_L3 t331 x29_6).length : Int)) = true := decide_eq_true c132
                  have c132b1 : decide (1 < (rd_L3 t331 x29_6).length) = true := decide_eq_true (by omega)
                  clear c132
                  replace H := Option.bind_eq_some_iff.mp H
                  obtain ⟨t340, A1330, H⟩ := H
                  replace H : (if t340 = true then (laws_FnCadences.l2 k6 (wrap64 (1 + t301)) (wrap64 (t299 * (wrap64 (1 + t301)))) x23_4 x24_4 t329 t331 (wrap64 (x29_6 + 1)) t291 t292 t295) else (none)) = some r := H
                  have A133 := Aside0.mk A1330
                  clear A1330
                  by_cases c134 : t340 = true
                  rotate_left
                  ·replace c134 := Bool.eq_false_iff.mpr c134
                   subst c134
                   rw [if_neg (show ¬ (false = true) by decide)] at H
                   cases H
                  subst c134
                  have H1 : (laws_FnCadences.l2 k6 (wrap64 (1 + t301)) (wrap64 (t299 * (wrap64 (1 + t301)))) x23_4 x24_4 t329 t331 (wrap64 (x29_6 + 1)) t291 t292 t295) = some r := by rw [if_pos rfl] at H; exact H
                  clear H
                  have H := H1
                  clear H1
                  have H' := Aside0.mk H
                  clear H
                  obtain ⟨Ao135, co135, eo135⟩ := Kd.S_slice HO_27.out
                  subst eo135
                  try go_wp2
                  have n0_ := Aside0.mk (Kd.S_drew HO_27.out)
                  have n1_ := Aside0.mk (Kd.R_drew HO_299001.out)
                  have n2_ := Aside0.mk (Kd.R_drew HO_299002.out)
                  have n3_ := Aside0.mk (blk_drew BK298.out)
                  have n4_ := Aside0.mk (below_drew1 HB.out)
                  clear HO_27
                  clear HO_299001
                  clear HO_299002
                  clear BK298
                  clear HB
                  have HO_27 := n0_
                  have HO_299001 := n1_
                  have HO_299002 := n2_
                  have BK298 := n3_
                  have HB := n4_
                  clear n0_ n1_ n2_ n3_ n4_
                  have p335 : 0 ≤ (x29_6 : Int) := of_decide_eq_true (by first | (with_reducible assumption) | assumption)
                  have q335 : x29_6 < (t331.length : Int) := of_decide_eq_true (by first | (with_reducible assumption) | assumption)
                  obtain ⟨ad335, A335_0, c335_0, e335, hx335_0, hl335_0, hi335_0⟩ := at_L3 (Kd.S_reads' HO_27.out).2.2 x29_6 p335 q335
                  cases e335
                  obtain ⟨ce335, hce335, hMe335, hcc335⟩ := Kd.S_get HO_27.out [] x29_6 p335 (by first | exact q335 | exact of_decide_eq_true (by first | (with_reducible assumption) | assumption) | (have e_ := (Kd.S_reads' HO_27.out).1; omega))
                  obtain ⟨ve335_0, rfl, ge335_0⟩ := hMe335
                  have hv335_0 := hcc335 0 _ rfl
                  rw [Nat.add_zero, show ((Kd.slice 2 (Kd.int .i64))).sz = 1 from rfl, Nat.mul_one] at hv335_0
                  replace hv335_0 := Option.some.inj (hv335_0.symm.trans hx335_0)
                  rw [hv335_0] at ge335_0
                  have HL335_0 := Aside0.mk (show Kd.R (Kd.int .i64) 2 _ _ _ _ (rd_L3 t331 x29_6) from ge335_0)
                  clear hv335_0 ge335_0
                  clear hcc335 hce335
                  have HR335_0 := Aside0.mk hi335_0
                  have HC335_0 := Aside0.mk hl335_0
                  clear hi335_0 hl335_0
                  replace p335 := eq_true p335
                  replace q335 := eq_true q335
                  have p336 : 0 ≤ (x29_6 : Int) := of_decide_eq_true (by first | (with_reducible assumption) | assumption)
                  have q336 : x29_6 < (t331.length : Int) := of_decide_eq_true (by first | (with_reducible assumption) | assumption)
                  obtain ⟨ad336, A336_0, c336_0, e336, hx336_0, hl336_0, hi336_0⟩ := at_L3 (Kd.S_reads' HO_27.out).2.2 x29_6 p336 q336
                  obtain rfl : ad335 = ad336 := (by injection e336)
                  obtain ⟨ce336, hce336, hMe336, hcc336⟩ := Kd.S_get HO_27.out [] x29_6 p336 (by first | exact q336 | exact of_decide_eq_true (by first | (with_reducible assumption) | assumption) | (have e_ := (Kd.S_reads' HO_27.out).1; omega))
                  obtain ⟨ve336_0, rfl, ge336_0⟩ := hMe336
                  have hv336_0 := hcc336 0 _ rfl
                  rw [Nat.add_zero, show ((Kd.slice 2 (Kd.int .i64))).sz = 1 from rfl, Nat.mul_one] at hv336_0
                  replace hv336_0 := Option.some.inj (hv336_0.symm.trans hx336_0)
                  rw [hv336_0] at ge336_0
                  have HL336_0 := Aside0.mk (show Kd.R (Kd.int .i64) 2 _ _ _ _ (rd_L3 t331 x29_6) from ge336_0)
                  clear hv336_0 ge336_0
                  clear hcc336 hce336
                  have HR336_0 := Aside0.mk hi336_0
                  have HC336_0 := Aside0.mk hl336_0
                  clear hi336_0 hl336_0
                  replace p336 := eq_true p336
                  replace q336 := eq_true q336
                  have ea_ := Option.some.inj (hx335_0.symm.trans hx336_0)
                  injection ea_ with ea_ en_ ec_
                  subst ea_
                  subst ec_
                  clear en_
                  have p337 : 0 ≤ (0 : Int) := (by omega)
                  have q337 : 0 < ((rd_L3 t331 x29_6).length : Int) := of_decide_eq_true (by first | (with_reducible assumption) | assumption)
                  obtain ⟨ad337, e337, hx337_0⟩ := Kd.at_int (by repeat (first | (with_reducible exact HR336_0.out) | (with_reducible refine Kd.C_alloc ?_ _) | (with_reducible refine Kd.C_drewN ?_ _) | (with_reducible refine Kd.C_drew ?_) | exact HR336_0.out)) 0 p337 q337
                  cases e337
                  have qi337 : (0 < (rd_L3 t331 x29_6).length) = True := eq_true (by omega)
                  (try rw [show ((0 : Int)).toNat = 0 from rfl] at hx337_0)
                  (try rw [Addr.add_zero'] at hx337_0)
                  replace p337 := eq_true p337
                  replace q337 := eq_true q337
                  have p338 : 0 ≤ (x29_6 : Int) := of_decide_eq_true (by first | (with_reducible assumption) | assumption)
                  have q338 : x29_6 < (t331.length : Int) := of_decide_eq_true (by first | (with_reducible assumption) | assumption)
                  obtain ⟨ad338, A338_0, c338_0, e338, hx338_0, hl338_0, hi338_0⟩ := at_L3 (Kd.S_reads' HO_27.out).2.2 x29_6 p338 q338
                  obtain rfl : ad335 = ad338 := (by injection e338)
                  obtain ⟨ce338, hce338, hMe338, hcc338⟩ := Kd.S_get HO_27.out [] x29_6 p338 (by first | exact q338 | exact of_decide_eq_true (by first | (with_reducible assumption) | assumption) | (have e_ := (Kd.S_reads' HO_27.out).1; omega))
                  obtain ⟨ve338_0, rfl, ge338_0⟩ := hMe338
                  have hv338_0 := hcc338 0 _ rfl
                  rw [Nat.add_zero, show ((Kd.slice 2 (Kd.int .i64))).sz = 1 from rfl, Nat.mul_one] at hv338_0
                  replace hv338_0 := Option.some.inj (hv338_0.symm.trans hx338_0)
                  rw [hv338_0] at ge338_0
                  have HL338_0 := Aside0.mk (show Kd.R (Kd.int .i64) 2 _ _ _ _ (rd_L3 t331 x29_6) from ge338_0)
                  clear hv338_0 ge338_0
                  clear hcc338 hce338
                  have HR338_0 := Aside0.mk hi338_0
                  have HC338_0 := Aside0.mk hl338_0
                  clear hi338_0 hl338_0
                  replace p338 := eq_true p338
                  replace q338 := eq_true q338
                  have ea_ := Option.some.inj (hx335_0.symm.trans hx338_0)
                  injection ea_ with ea_ en_ ec_
                  subst ea_
                  subst ec_
                  clear en_
                  have p339 : 0 ≤ (1 : Int) := (by omega)
                  have q339 : 1 < ((rd_L3 t331 x29_6).length : Int) := of_decide_eq_true (by first | (with_reducible assumption) | assumption)
                  obtain ⟨ad339, e339, hx339_0⟩ := Kd.at_int (by repeat (first | (with_reducible exact HR338_0.out) | (with_reducible refine Kd.C_alloc ?_ _) | (with_reducible refine Kd.C_drewN ?_ _) | (with_reducible refine Kd.C_drew ?_) | exact HR338_0.out)) 1 p339 q339
                  cases e339
                  (try simp only [show (1 : Int).toNat = 1 from rfl, Nat.reduceMul, Nat.reduceEqDiff, Go.Addr.add, ↓reduceIte] at hx339_0)
                  have qi339 : (1 < (rd_L3 t331 x29_6).length) = True := eq_true (by omega)
                  (try rw [show ((1 : Int)).toNat = 1 from rfl] at hx339_0)
                  replace p339 := eq_true p339
                  replace q339 := eq_true q339
                  refine start_ (n := 25) (S := fun w' => w'.cell? ⟨gb298, 0, none⟩ = some (.string t291) ∧ w'.cell? ⟨gb298, 1, none⟩ = some (.slice Ao15 t292.length co15) ∧ w'.cell? ⟨gb298, 2, none⟩ = some (.slice Ao16 t295.length co16) ∧ w'.cell? (ad335.add (x29_6).toNat) = some (.slice (some ad337) (rd_L3 t331 x29_6).length c335_0) ∧ w'.cell? (ad335.add (x29_6).toNat) = some (.slice (some ad337) (rd_L3 t331 x29_6).length c335_0) ∧ w'.cell? ad337 = some (.int .i64 (rd (rd_L3 t331 x29_6) 0)) ∧ w'.cell? (ad335.add (x29_6).toNat) = some (.slice (some ad337) (rd_L3 t331 x29_6).length c335_0) ∧ w'.cell? ⟨ad337.block, ad337.off + 1, none⟩ = some (.int .i64 (rd (rd_L3 t331 x29_6) 1))) (ds := []) bz10_102 (by kernel_rfl) rfl rfl ⟨(blk_cell BK298.out 0).trans rfl, (blk_cell BK298.out 1).trans rfl, (blk_cell BK298.out 2).trans rfl, hx335_0, hx336_0, hx337_0, hx338_0, hx339_0⟩ (fun hHeld => ?_); refine with_tabW laws_FnCadences.tab34 laws_FnCadences.bits34 (fun HT_ HW_ => ?_)
                  generalize wr.drew = w136 at HO_27 HO_299001 HO_299002 BK298 HB HL335_0 HL336_0 HL338_0 HR335_0 HR336_0 HR338_0 hx335_0 hx336_0 hx337_0 hx338_0 hx339_0 hHeld ⊢
                  refine pure_ (i := 0) (N := some 279) (v := ?_) (a' := ?_) bz10_103 rfl rfl (any_of HT_.out (by kernel_rfl)) (fun _ _ _ h => h) (Or.inl ⟨by rfl, ?_⟩) ?_ ?_
                  rotate_left
                  ·intro w'
                   go_simp
                   with_reducible rfl
                  rotate_left
                  ·simp only [Act.put, s0_, s1_, s2_, i64_w, i32_w]
                   rfl
                  refine pure_ (i := 1) (N := some 280) (v := ?_) (a' := ?_) bz10_104 rfl rfl (any_of HT_.out (by kernel_rfl)) (fun _ _ _ h => h) (Or.inl ⟨by rfl, ?_⟩) ?_ ?_
                  rotate_left
                  ·intro w'
                   go_simp
                   with_reducible rfl
                  rotate_left
                  ·simp only [Act.put, s0_, s1_, s2_, i64_w, i32_w]
                   rfl
                  refine pure_ (i := 2) (N := some 281) (v := ?_) (a' := ?_) bz10_105 rfl rfl (any_of HT_.out (by kernel_rfl)) (fun _ _ _ h => h) (Or.inl ⟨by rfl, ?_⟩) ?_ ?_
                  rotate_left
                  ·intro w'
                   go_simp
                   with_reducible rfl
                  rotate_left
                  ·simp only [Act.put, s0_, s1_, s2_, i64_w, i32_w]
                   rfl
                  refine take_ (i := 3) (N := some 282) (v := ?_) (a' := ?_) bz10_106 rfl rfl (take_ofW HT_.out HW_.out (by kernel_rfl)) (fun _ _ _ h => h) (Or.inl ⟨by rfl, ?_⟩) hHeld ?_ ?_
                  rotate_left
                  ·rintro w' ⟨s0, s1, s2, s3, s4, s5, s6, s7⟩
                   go_simp
                   with_reducible rfl
                  rotate_left
                  ·simp only [Act.put, s0_, s1_, s2_, i64_w, i32_w]
                   rfl
                  refine pure_ (i := 4) (N := some 283) (v := ?_) (a' := ?_) bz10_107 rfl rfl (any_of HT_.out (by kernel_rfl)) (fun _ _ _ h => h) (Or.inl ⟨by rfl, ?_⟩) ?_ ?_
                  rotate_left
                  ·intro w'
                   go_simp
                   with_reducible rfl
                  rotate_left
                  ·simp only [Act.put, s0_, s1_, s2_, i64_w, i32_w]
                   rfl
                  refine pure_ (i := 5) (N := some 284) (v := ?_) (a' := ?_) bz10_108 rfl rfl (any_of HT_.out (by kernel_rfl)) (fun _ _ _ h => h) (Or.inl ⟨by rfl, ?_⟩) ?_ ?_
                  rotate_left
                  ·intro w'
                   go_simp
                   with_reducible rfl
                  rotate_left
                  ·simp only [Act.put, s0_, s1_, s2_, i64_w, i32_w]
                   rfl
                  refine pure_ (i := 6) (N := some 285) (v := ?_) (a' := ?_) bz10_109 rfl rfl (any_of HT_.out (by kernel_rfl)) (fun _ _ _ h => h) (Or.inl ⟨by rfl, ?_⟩) ?_ ?_
                  rotate_left
                  ·intro w'
                   go_simp
                   with_reducible rfl
                  rotate_left
                  ·simp only [Act.put, s0_, s1_, s2_, i64_w, i32_w]
                   rfl
                  refine pure_ (i := 8) (N := some 287) (v := ?_) (a' := ?_) bz10_110 rfl rfl (any_of HT_.out (by kernel_rfl)) (fun _ _ _ h => h) (Or.inl ⟨by rfl, ?_⟩) ?_ ?_
                  rotate_left
                  ·intro w'
                   go_simp
                   with_reducible rfl
                  rotate_left
                  ·simp only [Act.put, s0_, s1_, s2_, i64_w, i32_w]
                   rfl
                  refine pure_ (i := 9) (N := some 288) (v := ?_) (a' := ?_) bz10_111 rfl rfl (any_of HT_.out (by kernel_rfl)) (fun _ _ _ h => h) (Or.inl ⟨by rfl, ?_⟩) ?_ ?_
                  rotate_left
                  ·intro w'
                   go_simp
                   with_reducible rfl
                  rotate_left
                  ·simp only [Act.put, s0_, s1_, s2_, i64_w, i32_w]
                   rfl
                  refine pure_ (i := 10) (N := some 289) (v := ?_) (a' := ?_) bz10_112 rfl rfl (any_of HT_.out (by kernel_rfl)) (fun _ _ _ h => h) (Or.inl ⟨by rfl, ?_⟩) ?_ ?_
                  rotate_left
                  ·intro w'
                   go_simp
                   with_reducible rfl
                  rotate_left
                  ·simp only [Act.put, s0_, s1_, s2_, i64_w, i32_w]
                   rfl
                  refine pure_ (i := 11) (N := some 290) (v := ?_) (a' := ?_) bz10_113 rfl rfl (any_of HT_.out (by kernel_rfl)) (fun _ _ _ h => h) (Or.inl ⟨by rfl, ?_⟩) ?_ ?_
                  rotate_left
                  ·intro w'
                   go_simp
                   with_reducible rfl
                  rotate_left
                  ·simp only [Act.put, s0_, s1_, s2_, i64_w, i32_w]
                   rfl
                  refine pure_ (i := 12) (N := some 291) (v := ?_) (a' := ?_) bz10_114 rfl rfl (any_of HT_.out (by kernel_rfl)) (fun _ _ _ h => h) (Or.inl ⟨by rfl, ?_⟩) ?_ ?_
                  rotate_left
                  ·intro w'
                   go_simp
                   with_reducible rfl
                  rotate_left
                  ·simp only [Act.put, s0_, s1_, s2_, i64_w, i32_w]
                   rfl
                  refine pure_ (i := 16) (N := some 295) (v := ?_) (a' := ?_) bz10_115 rfl rfl (any_of HT_.out (by kernel_rfl)) (fun _ _ _ h => h) (Or.inl ⟨by rfl, ?_⟩) ?_ ?_
                  rotate_left
                  ·intro w'
                   go_simp
                   with_reducible rfl
                  rotate_left
                  ·simp only [Act.put, s0_, s1_, s2_, i64_w, i32_w]
                   rfl
                  refine pure_ (i := 17) (N := some 296) (v := ?_) (a' := ?_) bz10_116 rfl rfl (any_of HT_.out (by kernel_rfl)) (fun _ _ _ h => h) (Or.inl ⟨by rfl, ?_⟩) ?_ ?_
                  rotate_left
                  ·intro w'
                   go_simp
                   with_reducible rfl
                  rotate_left
                  ·simp only [Act.put, s0_, s1_, s2_, i64_w, i32_w]
                   rfl
                  refine pure_ (i := 18) (N := some 297) (v := ?_) (a' := ?_) bz10_117 rfl rfl (any_of HT_.out (by kernel_rfl)) (fun _ _ _ h => h) (Or.inl ⟨by rfl, ?_⟩) ?_ ?_
                  rotate_left
                  ·intro w'
                   go_simp
                   with_reducible rfl
                  rotate_left
                  ·simp only [Act.put, s0_, s1_, s2_, i64_w, i32_w]
                   rfl
                  refine take_ (i := 7) (N := some 286) (v := ?_) (a' := ?_) bz10_118 rfl rfl (take_ofW HT_.out HW_.out (by kernel_rfl)) (fun _ _ _ h => h) (Or.inl ⟨by rfl, ?_⟩) hHeld ?_ ?_
                  rotate_left
                  ·rintro w' ⟨s0, s1, s2, s3, s4, s5, s6, s7⟩
                   go_simp
                   with_reducible rfl
                  rotate_left
                  ·simp only [Act.put, s0_, s1_, s2_, i64_w, i32_w]
                   rfl
                  refine take_ (i := 13) (N := some 292) (v := ?_) (a' := ?_) bz10_119 rfl rfl (take_ofW HT_.out HW_.out (by kernel_rfl)) (fun _ _ _ h => h) (Or.inl ⟨by rfl, ?_⟩) hHeld ?_ ?_
                  rotate_left
                  ·rintro w' ⟨s0, s1, s2, s3, s4, s5, s6, s7⟩
                   go_simp
                   with_reducible rfl
                  rotate_left
                  ·simp only [Act.put, s0_, s1_, s2_, i64_w, i32_w]
                   rfl
                  refine pure_ (i := 14) (N := some 293) (v := ?_) (a' := ?_) bz10_120 rfl rfl (any_of HT_.out (by kernel_rfl)) (fun _ _ _ h => h) (Or.inl ⟨by rfl, ?_⟩) ?_ ?_
                  rotate_left
                  ·intro w'
                   go_simp
                   with_reducible rfl
                  rotate_left
                  ·simp only [Act.put, s0_, s1_, s2_, i64_w, i32_w]
                   rfl
                  refine take_ (i := 15) (N := some 294) (v := ?_) (a' := ?_) bz10_121 rfl rfl (take_ofW HT_.out HW_.out (by kernel_rfl)) (fun _ _ _ h => h) (Or.inl ⟨by rfl, ?_⟩) hHeld ?_ ?_
                  rotate_left
                  ·rintro w' ⟨s0, s1, s2, s3, s4, s5, s6, s7⟩
                   go_simp
                   with_reducible rfl
                  rotate_left
                  ·simp only [Act.put, s0_, s1_, s2_, i64_w, i32_w]
                   rfl
                  refine take_ (i := 19) (N := some 298) (v := ?_) (a' := ?_) bz10_122 rfl rfl (take_ofW HT_.out HW_.out (by kernel_rfl)) (fun _ _ _ h => h) (Or.inl ⟨by rfl, ?_⟩) hHeld ?_ ?_
                  rotate_left
                  ·rintro w' ⟨s0, s1, s2, s3, s4, s5, s6, s7⟩
                   go_simp
                   with_reducible rfl
                  rotate_left
                  ·simp only [Act.put, s0_, s1_, s2_, i64_w, i32_w]
                   rfl
                  refine pure_ (i := 20) (N := some 299) (v := ?_) (a' := ?_) bz10_123 rfl rfl (any_of HT_.out (by kernel_rfl)) (fun _ _ _ h => h) (Or.inl ⟨by rfl, ?_⟩) ?_ ?_
                  rotate_left
                  ·intro w'
                   go_simp
                   with_reducible rfl
                  rotate_left
                  ·simp only [Act.put, s0_, s1_, s2_, i64_w, i32_w]
                   rfl
                  refine take_ (i := 21) (N := some 300) (v := ?_) (a' := ?_) bz10_124 rfl rfl (take_ofW HT_.out HW_.out (by kernel_rfl)) (fun _ _ _ h => h) (Or.inl ⟨by rfl, ?_⟩) hHeld ?_ ?_
                  rotate_left
                  ·rintro w' ⟨s0, s1, s2, s3, s4, s5, s6, s7⟩
                   go_simp
                   with_reducible rfl
                  rotate_left
                  ·simp only [Act.put, s0_, s1_, s2_, i64_w, i32_w]
                   rfl
                  refine one_ (i := 22) (N := some 301) bz10_125 rfl rfl (one_of HT_.out (by kernel_rfl)) (by decide) (fun K hK => ?_)
                  refine goes_ Try.func16 (by kernel_rfl) rfl #[.agg #[.string t291, .slice Ao15 t292.length co15, .slice Ao16 t295.length co16], .int .i64 (wrap64 (1 + t301)), .int .i64 x24_4, .int .i64 (rd (rd_L3 t331 x29_6) 0), .int .i64 (rd (rd_L3 t331 x29_6) 1)] (by rfl) rfl rfl (by (try simp only [List.map_toArray, List.map_cons, List.map_nil]); first | done | rfl | (simp only [List.length_drop, List.length_take]; rfl)) ?_
                  with_reducible refine (spec_IsCadence.calls k6 t291 _ _ t292 _ _ t295 (wrap64 (1 + t301)) x24_4 (rd (rd_L3 t331 x29_6) 0) (rd (rd_L3 t331 x29_6) 1) true _ ?side1 ?side2 ?side3 ?side4 A133.out).mono ?_
                  (case side1 => repeat (first | exact (Kd.R_reads' HO_299001.out).2.2 | (with_reducible refine Kd.C_alloc ?_ _) | (with_reducible refine Kd.C_drewN ?_ _) | (with_reducible refine Kd.C_drew ?_)))
                  (case side2 => exact (Kd.R_reads' HO_299001.out).2.1)
                  (case side3 => repeat (first | exact (Kd.R_reads' HO_299002.out).2.2 | (with_reducible refine Kd.C_alloc ?_ _) | (with_reducible refine Kd.C_drewN ?_ _) | (with_reducible refine Kd.C_drew ?_)))
                  (case side4 => exact (Kd.R_reads' HO_299002.out).2.1)
                  rintro e w137 ⟨rfl, hb⟩
                  have HS3_ := (hb.cell (World.block_lt_of_cell? _ _ (hHeld.2.2.2.1))).trans (hHeld.2.2.2.1)
                  have HS4_ := (hb.cell (World.block_lt_of_cell? _ _ (hHeld.2.2.2.2.1))).trans (hHeld.2.2.2.2.1)
                  have HS5_ := (hb.cell (World.block_lt_of_cell? _ _ (hHeld.2.2.2.2.2.1))).trans (hHeld.2.2.2.2.2.1)
                  have HS6_ := (hb.cell (World.block_lt_of_cell? _ _ (hHeld.2.2.2.2.2.2.1))).trans (hHeld.2.2.2.2.2.2.1)
                  have HS7_ := (hb.cell (World.block_lt_of_cell? _ _ (hHeld.2.2.2.2.2.2.2))).trans (hHeld.2.2.2.2.2.2.2)
                  refine ⟨_, rfl, ?_⟩
                  have n0_ := Aside0.mk (Kd.S_below (by (with_reducible repeat (first | apply Kd.S_alloc | apply Kd.S_drewN | apply Kd.S_drew)); exact HO_27.out) hb)
                  have n1_ := Aside0.mk (Kd.R_below (by (with_reducible repeat (first | apply Kd.R_alloc | apply Kd.R_drewN | apply Kd.R_drew)); exact HO_299001.out) hb)
                  have n2_ := Aside0.mk (Kd.R_below (by (with_reducible repeat (first | apply Kd.R_alloc | apply Kd.R_drewN | apply Kd.R_drew)); exact HO_299002.out) hb)
                  have n3_ := Aside0.mk (Kd.R_below (by (with_reducible repeat (first | apply Kd.R_alloc | apply Kd.R_drewN | apply Kd.R_drew)); exact HL335_0.out) hb)
                  have n4_ := Aside0.mk (Kd.R_below (by (with_reducible repeat (first | apply Kd.R_alloc | apply Kd.R_drewN | apply Kd.R_drew)); exact HL336_0.out) hb)
                  have n5_ := Aside0.mk (Kd.R_below (by (with_reducible repeat (first | apply Kd.R_alloc | apply Kd.R_drewN | apply Kd.R_drew)); exact HL338_0.out) hb)
                  have n6_ := Aside0.mk (blk_below (g := gb298) (o := .cells #[.string t291, .slice Ao15 t292.length co15, .slice Ao16 t295.length co16] 26 (0, 0)) (by (with_reducible repeat (first | refine blk_drewN ?_ _ | refine blk_drew ?_ | refine blk_alloc ?_ _)); exact BK298.out) hb)
                  have n7_ := Aside0.mk (Kd.C_below (by repeat (first | (with_reducible exact HR335_0.out) | (with_reducible refine Kd.C_alloc ?_ _) | (with_reducible refine Kd.C_drewN ?_ _) | (with_reducible refine Kd.C_drew ?_) | exact HR335_0.out)) hb)
                  have n8_ := Aside0.mk (Kd.C_below (by repeat (first | (with_reducible exact HR336_0.out) | (with_reducible refine Kd.C_alloc ?_ _) | (with_reducible refine Kd.C_drewN ?_ _) | (with_reducible refine Kd.C_drew ?_) | exact HR336_0.out)) hb)
                  have n9_ := Aside0.mk (Kd.C_below (by repeat (first | (with_reducible exact HR338_0.out) | (with_reducible refine Kd.C_alloc ?_ _) | (with_reducible refine Kd.C_drewN ?_ _) | (with_reducible refine Kd.C_drew ?_) | exact HR338_0.out)) hb)
                  have n10_ := Aside0.mk (below_step (by repeat (first | (with_reducible first | exact HB.out | apply below_alloc | apply pw_below_drewN | apply below_drew1 | refine below_set ?_ GE298.out) | exact HB.out)) hb)
                  clear HO_27
                  clear HO_299001
                  clear HO_299002
                  clear HL335_0
                  clear HL336_0
                  clear HL338_0
                  clear BK298
                  clear HR335_0
                  clear HR336_0
                  clear HR338_0
                  clear HB
                  have HO_27 := n0_
                  have HO_299001 := n1_
                  have HO_299002 := n2_
                  have HL335_0 := n3_
                  have HL336_0 := n4_
                  have HL338_0 := n5_
                  have BK298 := n6_
                  have HR335_0 := n7_
                  have HR336_0 := n8_
                  have HR338_0 := n9_
                  have HB := n10_
                  clear n0_ n1_ n2_ n3_ n4_ n5_ n6_ n7_ n8_ n9_ n10_
                  (try clear hb)
                  (try clear hb2)
                  (try clear hk)
                  (try clear hi)
                  refine hK.out _ _ ⟨(blk_cell BK298.out 0).trans rfl, (blk_cell BK298.out 1).trans rfl, (blk_cell BK298.out 2).trans rfl, HS3_, HS4_, HS5_, HS6_, HS7_⟩ (fun hHeld => ?_)
                  clear hK K
                  refine norm_ (a' := ?_) ?_ ?_
                  rotate_left
                  ·show Act.put _ (some 301) _ = _
                   simp only [Act.put, s0_, s1_, s2_, i64_w, i32_w]
                   rfl
                  refine pure_ (i := 23) (N := some 302) (v := ?_) (a' := ?_) bz10_126 rfl rfl (any_of HT_.out (by kernel_rfl)) (fun _ _ _ h => h) (Or.inl ⟨by rfl, ?_⟩) ?_ ?_
                  rotate_left
                  ·intro w'
                   go_simp
                   with_reducible rfl
                  rotate_left
                  ·simp only [Act.put, s0_, s1_, s2_, i64_w, i32_w]
                   rfl
                  refine pure_ (i := 24) (N := some 303) (v := ?_) (a' := ?_) bz10_127 rfl rfl (any_of HT_.out (by kernel_rfl)) (fun _ _ _ h => h) (Or.inl ⟨by rfl, ?_⟩) ?_ ?_
                  rotate_left
                  ·intro w'
                   go_simp
                   with_reducible rfl
                  rotate_left
                  ·simp only [Act.put, s0_, s1_, s2_, i64_w, i32_w]
                   rfl
                  refine done_ (done_of HT_.out (by kernel_rfl)) ?_
                  try go_wp2
                  go_roundg k6
                  case measure => have := HJ10.out; have := HK2.out; have := HJ44.out; have := HK4.out; have := HJ118.out; have := HK6.out; omega
                  case rel => exact ⟨(wrap64 (x29_6 + 1)), (by first | rfl | (simp; done) | (simp [*]; done)), H', ⟨by have := HJ10.out; have := HK2.out; have := HJ44.out; have := HK4.out; have := HJ118.out; have := HK6.out; omega⟩, ⟨by (with_reducible repeat (first | apply Kd.S_alloc | apply Kd.S_drewN | apply Kd.S_drew)); exact HO_27.out⟩, ⟨by (with_reducible repeat (first | apply Kd.R_alloc | apply Kd.R_drewN | apply Kd.R_drew)); exact HO_299001.out⟩, ⟨by (with_reducible repeat (first | apply Kd.R_alloc | apply Kd.R_drewN | apply Kd.R_drew)); exact HO_299002.out⟩, ⟨by (with_reducible repeat (first | refine blk_drewN ?_ _ | refine blk_drew ?_ | refine blk_alloc ?_ _)); exact BK298.out⟩, ⟨by repeat (first | (with_reducible first | exact HB.out | apply below_alloc | apply pw_below_drewN | apply below_drew1 | refine below_set ?_ GE298.out) | exact HB.out)⟩⟩
               subst c127
               rw [if_pos rfl] at H
               cases H
          subst c115
          rw [if_pos rfl] at H
          cases H
       rw [if_pos c33] at H
       have c33b0 : decide (x14_2 < (wrap64 (t299 * (wrap64 (1 + t301))))) = true := decide_eq_true c33
       clear c33
       by_cases c34 : x14_2 = t304
       rotate_left
       ·rw [if_neg c34] at H
        have c34b0 : (x14_2 == t304) = false := beq_eq_false_iff_ne.mpr c34
        have c34b1 : (x14_2 != t304) = true := bne_iff_ne.mpr c34
        replace H := Option.bind_eq_some_iff.mp H
        obtain ⟨t308, A350, H⟩ := H
        replace H : (if t308 = true then (none) else (laws_FnCadences.l0 k2 (wrap64 (1 + t301)) (wrap64 (t299 * (wrap64 (1 + t301)))) (wrap64 (1 + t302)) t303 t304 (wrap64 (x14_2 + 1)) t291 t292 t295)) = some r := H
        have A35 := Aside0.mk A350
        clear A350
        by_cases c36 : t308 = true
        rotate_left
        ·replace c36 := Bool.eq_false_iff.mpr c36
         subst c36
         have H1 : (laws_FnCadences.l0 k2 (wrap64 (1 + t301)) (wrap64 (t299 * (wrap64 (1 + t301)))) (wrap64 (1 + t302)) t303 t304 (wrap64 (x14_2 + 1)) t291 t292 t295) = some r := by rw [if_neg (show ¬ (false = true) by decide)] at H; exact H
         clear H
         have H := H1
         clear H1
         have H' := Aside0.mk H
         clear H
         have hcz39_0 : wr.cell? ⟨gb298, 0, none⟩ = some (.string t291) := (blk_cell BK298.out 0).trans rfl
         have hcz39_1 : wr.cell? ⟨gb298, 1, none⟩ = some (.slice Ao15 t292.length co15) := (blk_cell BK298.out 1).trans rfl
         have hcz39_2 : wr.cell? ⟨gb298, 2, none⟩ = some (.slice Ao16 t295.length co16) := (blk_cell BK298.out 2).trans rfl
         have hfz39_0 := blk_frozen BK298.out 0
         have hfz39_1 := blk_frozen BK298.out 1
         have hfz39_2 := blk_frozen BK298.out 2
         go_wp2_with (first | (go_at_call 10; (with_reducible refine (impl_IsCadence.calls k2 t291 _ _ t292 _ _ t295 (wrap64 (1 + t301)) x14_2 (wrap64 (1 + t302)) t303 false _ ?side1 ?side2 ?side3 ?side4 A35.out).mono ?_); (case side1 => repeat (first | exact (Kd.R_reads' HO_299001.out).2.2 | (with_reducible refine Kd.C_alloc ?_ _) | (with_reducible refine Kd.C_drewN ?_ _) | (with_reducible refine Kd.C_drew ?_))); (case side2 => exact (Kd.R_reads' HO_299001.out).2.1); (case side3 => repeat (first | exact (Kd.R_reads' HO_299002.out).2.2 | (with_reducible refine Kd.C_alloc ?_ _) | (with_reducible refine Kd.C_drewN ?_ _) | (with_reducible refine Kd.C_drew ?_))); (case side4 => exact (Kd.R_reads' HO_299002.out).2.1); rintro e w40 ⟨rfl, hb⟩; have n0_ := Aside0.mk (Kd.R_below (by (with_reducible repeat (first | apply Kd.R_alloc | apply Kd.R_drewN | apply Kd.R_drew)); exact HO_299001.out) hb); have n1_ := Aside0.mk (Kd.R_below (by (with_reducible repeat (first | apply Kd.R_alloc | apply Kd.R_drewN | apply Kd.R_drew)); exact HO_299002.out) hb); have n2_ := Aside0.mk (blk_below (g := gb298) (o := .cells #[.string t291, .slice Ao15 t292.length co15, .slice Ao16 t295.length co16] 26 (0, 0)) (by (with_reducible repeat (first | refine blk_drewN ?_ _ | refine blk_drew ?_ | refine blk_alloc ?_ _)); exact BK298.out) hb); have n3_ := Aside0.mk (below_step (by repeat (first | (with_reducible first | exact HB.out | apply below_alloc | apply pw_below_drewN | apply below_drew1 | refine below_set ?_ GE298.out) | exact HB.out)) hb); clear HO_299001; clear HO_299002; clear BK298; clear HB; have HO_299001 := n0_; have HO_299002 := n1_; have BK298 := n2_; have HB := n3_; clear n0_ n1_ n2_ n3_; (try clear hb); (try clear hb2); (try clear hk); (try clear hi)))
         go_roundg k2
         case measure => have := HJ10.out; have := HK2.out; omega
         case rel => exact ⟨(wrap64 (x14_2 + 1)), (by first | rfl | (simp; done) | (simp [*]; done)), H', ⟨by have := HJ10.out; have := HK2.out; omega⟩, ⟨by (with_reducible repeat (first | apply Kd.R_alloc | apply Kd.R_drewN | apply Kd.R_drew)); exact HO_299001.out⟩, ⟨by (with_reducible repeat (first | apply Kd.R_alloc | apply Kd.R_drewN | apply Kd.R_drew)); exact HO_299002.out⟩, ⟨by (with_reducible repeat (first | refine blk_drewN ?_ _ | refine blk_drew ?_ | refine blk_alloc ?_ _)); exact BK298.out⟩, ⟨by repeat (first | (with_reducible first | exact HB.out | apply below_alloc | apply pw_below_drewN | apply below_drew1 | refine below_set ?_ GE298.out) | exact HB.out)⟩⟩
        subst c36
        rw [if_pos rfl] at H
        cases H
       rw [if_pos c34] at H
       have c34b0 : (x14_2 == t304) = true := beq_iff_eq.mpr c34
       have c34b1 : (x14_2 != t304) = false := bne_eq_false_iff_eq.mpr c34
       clear c34
       have H' := Aside0.mk H
       clear H
       go_wp2
       go_roundg k2
       case measure => have := HJ10.out; have := HK2.out; omega
       case rel => exact ⟨(wrap64 (x14_2 + 1)), (by first | rfl | (simp; done) | (simp [*]; done)), H', ⟨by have := HJ10.out; have := HK2.out; omega⟩, ⟨by (with_reducible repeat (first | apply Kd.R_alloc | apply Kd.R_drewN | apply Kd.R_drew)); exact HO_299001.out⟩, ⟨by (with_reducible repeat (first | apply Kd.R_alloc | apply Kd.R_drewN | apply Kd.R_drew)); exact HO_299002.out⟩, ⟨by (with_reducible repeat (first | refine blk_drewN ?_ _ | refine blk_drew ?_ | refine blk_alloc ?_ _)); exact BK298.out⟩, ⟨by repeat (first | (with_reducible first | exact HB.out | apply below_alloc | apply pw_below_drewN | apply below_drew1 | refine below_set ?_ GE298.out) | exact HB.out)⟩⟩
    subst c32
    rw [if_pos rfl] at H
    cases H
 subst c4
 have H1 : (some true) = some r := by rw [if_pos rfl] at H; exact H
 clear H
 have H := H1
 clear H1
 obtain rfl := Option.some.inj H
 go_enter Try.func3, Try.ntmps3
 go_wp2_with (first | ((with_reducible refine gate_callee (f := 5) rfl ?_); refine goesL_ (some 32) rfl rfl Try.func5 (by kernel_rfl) rfl #[.slice A0 l0.length c0, .slice A1 l1.length c1] rfl (by (try simp only [List.map_toArray, List.map_cons, List.map_nil]); first | done | rfl | (simp only [List.length_drop, List.length_take]; rfl)) ?_; (with_reducible refine (laws_r8Long.calls _ _ l0 _ _ l1 true _ ?side1 ?side2 ?side3 ?side4 A3.out).mono ?_); (case side1 => repeat (first | exact HR0.out | (with_reducible refine Kd.C_alloc ?_ _) | (with_reducible refine Kd.C_drewN ?_ _) | (with_reducible refine Kd.C_drew ?_))); (case side2 => exact HC0.out); (case side3 => repeat (first | exact HR1.out | (with_reducible refine Kd.C_alloc ?_ _) | (with_reducible refine Kd.C_drewN ?_ _) | (with_reducible refine Kd.C_drew ?_))); (case side4 => exact HC1.out); rintro e w' ⟨rfl, ⟨nd, rfl⟩⟩; refine ⟨_, rfl, ?_⟩))
 go_ret
 exact ⟨by first | rfl | (simp [errW_none, errW_some] <;> rfl) | (simp [*, errW_none, errW_some] <;> rfl), by repeat (first | (with_reducible first | exact HB.out | apply below_alloc | apply pw_below_drewN | apply below_drew1) | exact HB.out)⟩

/-- THE ONE PURE STATEMENT of laws_FnCadences: yours. -/
def laws_FnCadences.Pure : Prop := ∀ (l0 : List Int) (l1 : List Int), l0.length ≤ maxLen → l0.length * 1 ≤ 140737488351232 → (∀ x ∈ l0, (Lit.int .u8 x).wf = true) → l1.length ≤ maxLen → l1.length * 1 ≤ 140737488351232 → (∀ x ∈ l1, (Lit.int .u8 x).wf = true) → ∃ k, laws_FnCadences.f k l0 l1 = some true
theorem laws_FnCadences.walk (P : laws_FnCadences.Pure) (a0 : Option Addr) (len0 cap0 : Nat) (z0 : List Int) (a1 : Option Addr) (len1 cap1 : Nat) (z1 : List Int) (w : World) (w0 : (a0 = none ∧ len0 = 0 ∧ cap0 = 0 ∧ z0 = []) ∨ ∃ x, a0 = some x ∧ len0 ≤ cap0 ∧ cap0 ≤ maxLen ∧ z0.length = cap0 ∧ (∀ i, i < z0.length → w.cell? (x.add i) = some (.int .u8 (z0.getD i 0))) ∧ ∀ n ∈ z0, (Lit.int .u8 n).wf = true) (y0 : len0 * 1 ≤ 140737488351232) (w1 : (a1 = none ∧ len1 = 0 ∧ cap1 = 0 ∧ z1 = []) ∨ ∃ x, a1 = some x ∧ len1 ≤ cap1 ∧ cap1 ≤ maxLen ∧ z1.length = cap1 ∧ (∀ i, i < z1.length → w.cell? (x.add i) = some (.int .u8 (z1.getD i 0))) ∧ ∀ n ∈ z1, (Lit.int .u8 n).wf = true) (y1 : len1 * 1 ≤ 140737488351232) :
  Calls Try.prog 3 #[.slice a0 len0 cap0, .slice a1 len1 cap1] w fun e w' => e = .returned (.bool true) ∧ Below w.heap.size w w' := by
 obtain ⟨l0, rfl, hr0, hm0, hw0, hc0⟩ := ReadsInt.ofRowC w0
 obtain ⟨l1, rfl, hr1, hm1, hw1, hc1⟩ := ReadsInt.ofRowC w1
 obtain ⟨k, h⟩ := P l0 l1 hm0 y0 hw0 hm1 y1 hw1
 refine (laws_FnCadences.calls k _ _ l0 _ _ l1 true w (Kd.C_of_reads (d := (0 : Int)) (h1 := fun _ => rfl) hr0) hc0 (Kd.C_of_reads (d := (0 : Int)) (h1 := fun _ => rfl) hr1) hc1 h).mono ?_
 rintro e w' ⟨rfl, hd⟩
 exact ⟨rfl, hd⟩

end Go.Proofs.Ytbpliblhpiompaa.PFnCadences
