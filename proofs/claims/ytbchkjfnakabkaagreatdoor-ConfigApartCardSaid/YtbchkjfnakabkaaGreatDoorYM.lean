import Derived.Test.YtbchkjfnakabkaaGreatDoorB34
set_option linter.unusedSimpArgs false
set_option linter.unusedVariables false
namespace Go.Proofs.YtbchkjfnakabkaaGreatDoor
open Go.RowKit
theorem La{a b:World}(h:Later a b:=by repeat(first|assumption|exact Later.refl _|refine Later.drew ?_|refine Later.drewN ?_ _|refine Later.alloc ?_ _|refine Later.trans ?_ (by assumption))):Later a b:=h
