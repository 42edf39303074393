import Derived.Test.YtbchkjfnakabkaaGreatDoorCards
import Derived.Test.YtbchkjfnakabkaaGreatDoorTie
import Derived.Test.YtbchkjfnakabkaaGreatDoorB34
import Derived.Deep.DeepHandedRow
import Derived.Lib.LaidTab
import Derived.ChangeMaps5
import Derived.Carry
set_option linter.unusedSimpArgs false
set_option linter.unusedVariables false
namespace Go.Proofs.YtbchkjfnakabkaaGreatDoor
open Go.ChangeShapes Go.WideShapes Go.ChangeAt Go.RowKit
abbrev D0:List (String × DataW Unit):=[("math/bits.deBruijn32tab", Rows.laid_math_bits_deBruijn32tab),("math/bits.deBruijn64tab", Rows.laid_math_bits_deBruijn64tab),("internal/strconv.uint64pow10", Rows.laid_internal_strconv_uint64pow10),("unicode/utf8.acceptRanges", Rows.laid_unicode_utf8_acceptRanges),("strconv.ErrRange", Rows.laid_strconv_ErrRange),("strconv.ErrSyntax", Rows.laid_strconv_ErrSyntax),("unicode/utf8.first", Rows.laid_unicode_utf8_first)]
abbrev synS:ByteArray:={ data:=#[105,110,118,97,108,105,100,32,115,121,110,116,97,120] }
abbrev rngS:ByteArray:={ data:=#[118,97,108,117,101,32,111,117,116,32,111,102,32,114,97,110,103,101] }
def Yy:Nat->DataW Unit->List Value
 |0,_=>[]
 |_+1,.lit (.int k n)=>[.int k n]
 |f+1,.agg l=>l.flatMap (Yy f)
 |_+1,_=>[]
def Jw(g:Nat)(cs:List Value)(h:Array Obj):Array Obj:=h.modify g fun
 |.cells _ t frozen=>.cells cs.toArray t frozen
 |o=>o
noncomputable def low:Nat:=(World.holding Tryz.prog default ⟨#[],#[],[]⟩).heap.size
noncomputable def Ur(os:Os):World:=
 let w0:=World.holding Tryz.prog os ⟨#[.cells #[.string synS] 263,.cells #[.string rngS] 263],#[],[]⟩
 { w0 with heap:=Jw 7 (Yy 3 Rows.laid_math_bits_deBruijn64tab) (Jw 5 (Yy 3 Rows.laid_internal_strconv_uint64pow10) (Jw 0 [.iface 261 (.pointer (some ⟨low,0,none⟩))]
  (Jw 1 [.iface 261 (.pointer (some ⟨low+1,0,none⟩))] (Jw 6 (Yy 3 Rows.laid_math_bits_deBruijn32tab) (Jw 3 (Yy 3 Rows.laid_unicode_utf8_first)
  (Jw 4 (Yy 3 Rows.laid_unicode_utf8_acceptRanges) w0.heap)))))) }
abbrev Ziy:Value:=.agg #[.int .i64 0,.int .i64 0,.int .i64 0,.int .u64 0,.int .u64 0,.int .u64 0,.int .u64 0,.slice none 0 0]
theorem laid_met(os:Os):laidMet Tryz.prog D0 ((Ur os).forCall (λ_ _=>0) ⟨#[],#[Ziy,.string ⟨#[]⟩,.int .i64 0],[]⟩).memory:=
 laidMet_of_run' 8 (by kernel_rfl) (by kernel_rfl)
end Go.Proofs.YtbchkjfnakabkaaGreatDoor
namespace Go.Proofs.YtbchkjfnakabkaaGreatDoor
open Go.ChangeShapes Go.WideShapes Go.ChangeAt Go.RowKit
open Go.ChangeMaps (open_string shut_string)
theorem own:ownKnob Tryz.prog.godebug=none:=by kernel_rfl
theorem ZhE:laidOutB Tryz.prog=true:=by kernel_rfl
theorem back{H:Type}{enc:TypeId × Value->H}{W W':World}{t:TypeId}{v:Value}{d:DataW H}{p:List MemPlace}(hr:Tryz.prog.readableRec t=true)(hrow:t<Tryz.prog.types.size)
 (h:DataW.Trod enc Tryz.prog W 0 (λ_=>true) true t v d p) (hb:Below W.heap.size W W') (hlt:∀ x∈p,x.block<W.heap.size):DataW.Trod enc Tryz.prog W' 0 (λb=>decide (b<W.heap.size)) true t v d p:=
 Below.trod ZhE hr hrow h hb hlt
end Go.Proofs.YtbchkjfnakabkaaGreatDoor
namespace Go.Proofs.YtbchkjfnakabkaaGreatDoor
open Go.ChangeShapes Go.WideShapes Go.ChangeAt Go.RowKit
