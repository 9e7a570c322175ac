import Derived.Test.YtocleppbcngcjaaGreatDoorChecked
import Derived.Lib.Strings
import Derived.Lib.Slices
import Derived.Lib.Small
import Derived.Lib.Walk
import Derived.Lib.BitFns
import Derived.Test.YtocleppbcngcjaaGreatDoorL64
set_option linter.unusedVariables false
set_option linter.unusedSimpArgs false
namespace Go.Proofs.YtocleppbcngcjaaGreatDoor
theorem W3(x:Int)(h0:0<=x)(h1:x<=18446744073709551615):Lib.bitLen x.toNat<=64:=Lib.bitLen_le x.toNat 64 (by omega) (by omega)
theorem W4(x:Int)(w:World)(h0:0<=x)(h1:x<=18446744073709551615) :
  Calls Tryz.prog 70 #[.int .u64 x] w λe w'=>e=.returned (.int .i64 (64-(Lib.bitLen x.toNat:Int)))/\w'=w:=by
 have l:=W3 x h0 h1;have e8:(64-(Lib.bitLen x.toNat:Int)+9223372036854775808) % 18446744073709551616-9223372036854775808=64-(Lib.bitLen x.toNat:Int):=by omega
 go_enter Tryz.func70,Tryz.ntmps70
 go_wp2_with (go_at_call 111;refine (bits_Len64 x _ h0 h1).mono ?_;rintro e w' ⟨rfl,rfl⟩)
 go_ret
 refine⟨?_,rfl⟩;rw [<-e8];rfl
end Go.Proofs.YtocleppbcngcjaaGreatDoor
