import Derived.Test.YtdjgnbkclcjiiaaGreatDoorVcU
import Derived.Test.YtdjgnbkclcjiiaaGreatDoorRows
set_option linter.unusedVariables false
set_option maxRecDepth 100000
namespace Go.Proofs.YtdjgnbkclcjiiaaGreatDoor
open Go Go.RowKit
def fcalls:List Nat := [2,3,4,5,6,7,8,9,10,11,12,13,14,15,16,17,18,19,20,21,22,23,24,25,26,27,28,29,30,31,32,33,34,35,36,37,38,39,40,41,42,43,44,45,46,47,48,49,50,51,52,53,54,55,56,57,58,59,60,61,62,63,64,65,66,67,68,69,70,71,72,73,74,75,76,77,78,79,80,81,82,83,84,85,86,87,88,89,90,91,92,93,94,95,96,97,98,99,100,101,102,103,104,105,106,107,108,109,110,111,112,113,114,115,116,117,118,119,120,121,122,123,124,125,126,127,128,129,130,131,132,133,134,135,136,137,138,139,140,141,142,143,144,145,146,147,148,149,150,151,152,153,154,155,156,157,158,159,160,161,162,163,164,165,166,167,169,170,171,172,173,174,175,176,177,178,179,180,181,182,183,184,185,186,187,188,189,190,191,192,193,194,195,211,212,213,214,219,220,221,222,223,224,238]
def fext:List Nat := [0,1,168,196,197,198,199,200,201,202,203,204,205,206,207,208,209,210,215,216,217,218,225,226,227,228,229,230,231,232,233,234,235,236,237]
theorem base:Vc.Base Tryz.prog fcalls fext []:=⟨by kernel_rfl,by kernel_rfl,by kernel_rfl⟩
theorem zkf(l:List Nat)(h:Vc.okCalls Tryz.prog l=true):Vc.Base Tryz.prog fcalls fext l:=⟨by kernel_rfl,h,by kernel_rfl⟩
def gl0:List Vc.At := [.str [],.str [109,111,115,116],.str [108,101,97,115,116]]
def gl1:List Vc.At := [.str [60],.fn 219 [],.str [60,61],.fn 220 [],.str [62],.fn 221 [],.str [62,61],.fn 222 [],.str [61,61],.fn 223 [],.str [33,61],.fn 224 []]
def gl2:List Vc.At := [.str [60,61],.str [62,61],.str [61,61],.str [33,61],.str [60],.str [62],.str [124],.str [38],.str [33],.str [40],.str [41],.str [44],.str [45]]
def gl3:List Vc.At := [.int .i64 (.lit (-1099511627776)),.int .i64 (.lit (1099511627776))]
def globs:List (Nat × List Vc.At × TypeId) := [(0,gl0,184),(1,gl1,189),(2,gl2,194),(3,gl3,201)]
def Vg_0(w:World):Prop:=∃ ty mk,w.heap[0]? = some (.cells #[.string ⟨(([]:List UInt8)).toArray⟩,.string ⟨(([109,111,115,116]:List UInt8)).toArray⟩,.string ⟨(([108,101,97,115,116]:List UInt8)).toArray⟩] ty mk)
def Vg_1(w:World):Prop:=∃ ty mk,w.heap[1]? = some (.cells #[.string ⟨(([60]:List UInt8)).toArray⟩,.func (.func 219) #[] #[],.string ⟨(([60,61]:List UInt8)).toArray⟩,.func (.func 220) #[] #[],.string ⟨(([62]:List UInt8)).toArray⟩,.func (.func 221) #[] #[],.string ⟨(([62,61]:List UInt8)).toArray⟩,.func (.func 222) #[] #[],.string ⟨(([61,61]:List UInt8)).toArray⟩,.func (.func 223) #[] #[],.string ⟨(([33,61]:List UInt8)).toArray⟩,.func (.func 224) #[] #[]] ty mk)
def Vg_2(w:World):Prop:=∃ ty mk,w.heap[2]? = some (.cells #[.string ⟨(([60,61]:List UInt8)).toArray⟩,.string ⟨(([62,61]:List UInt8)).toArray⟩,.string ⟨(([61,61]:List UInt8)).toArray⟩,.string ⟨(([33,61]:List UInt8)).toArray⟩,.string ⟨(([60]:List UInt8)).toArray⟩,.string ⟨(([62]:List UInt8)).toArray⟩,.string ⟨(([124]:List UInt8)).toArray⟩,.string ⟨(([38]:List UInt8)).toArray⟩,.string ⟨(([33]:List UInt8)).toArray⟩,.string ⟨(([40]:List UInt8)).toArray⟩,.string ⟨(([41]:List UInt8)).toArray⟩,.string ⟨(([44]:List UInt8)).toArray⟩,.string ⟨(([45]:List UInt8)).toArray⟩] ty mk)
def Vg_3(w:World):Prop:=∃ ty mk,w.heap[3]? = some (.cells #[.int .i64 (-1099511627776),.int .i64 1099511627776] ty mk)
abbrev Vq (w:World)(f:FuncId)(a:Array Value)(r:Value):Prop:=∀ w':World,Below w.heap.size w w' → Calls Tryz.prog f a w' (Vc.Ret r w')
end Go.Proofs.YtdjgnbkclcjiiaaGreatDoor
