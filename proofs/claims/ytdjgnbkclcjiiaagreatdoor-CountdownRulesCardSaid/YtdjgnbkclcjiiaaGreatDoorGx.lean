import Derived.Test.YtdjgnbkclcjiiaaGreatDoorG0
set_option linter.unusedVariables false
set_option maxRecDepth 100000
namespace Go.Proofs.YtdjgnbkclcjiiaaGreatDoor
open Go Go.RowKit
def cuI_z:List Nat := [3,4,5,6,7,8,9,10,11,12,13,15,17,22,23,26,29,31,32,33,37,38,39,40,41,42,43,46,47,48,49,50,55,59,60,61,62,66,67,68,69,73,74,75,82,83,84,85,86,87,88,89,90,91,92,93,94,95,96,97,98,99,100,101,104,105,106,107,111,112,113,114,115,116,117,118,119,120,127,128,129,132,133,135,136,137,138,139,140,141,142,143,144,145,146,147,148,149,150,151,152,154,160,161,162,163,164,169,170,171,172,173,174,175,176,177,178,179,180,181,182,183,184,185,186,187,188,189,190,191,192,193,194,195,211,212,213,214,219,220,221,222,223,224]
theorem zhfa:Vc.okCalls Tryz.prog cuI_z=true:=by kernel_rfl
def cuG_z:List (Nat × Vc.LH) := [(400000000000000154,.unroll)]
def cuL_z:List Vc.Summary := []
theorem zifa:∀ e∈cuL_z,∀ (A:Vc.Alg (Vc.Env→Prop)) (yl:Vc.Yl (Vc.Env→Prop)) (K:Vc.Ex→Vc.St→Vc.Env→Prop) (K':Vc.SV→Vc.St→Vc.Env→Prop),Vc.inlX A (⟨Tryz.prog,fcalls,fext,cuI_z,cuG_z,globs,cuL_z,[]⟩:Vc.Cfg) (Vc.exec A (⟨Tryz.prog,fcalls,fext,cuI_z,cuG_z,globs,cuL_z,[]⟩:Vc.Cfg) e.n) yl K e.f e.args e.s K'=Vc.askRun A e.asks (K' e.v e.s') :=
 fun e he=>(List.not_mem_nil he).elim
def i6(n:Int):Vc.At := .int .i64 (.lit n)
def c1(a:Vc.At):Vc.SV := .cv (.one a)
def cl(a b:Nat):Vc.SV := .cv (.one (.loc a b))
def bt:Vc.At := .bool (.lit true)
def bf:Vc.At := .bool (.lit false)
def b0:List Vc.At := [.str [119,105,110,100],i6 0,i6 10,.str [119,105,110,100],i6 6,i6 20]
def b1:List Vc.At := [.lsl 282 0 2 2,.nils,i6 1,.lsl 286 0 2 2,.nils,i6 5,.nils,i6 0]
def b2:List Vc.At := [.lsl 582 0 2 2,.nils,i6 1,.lsl 586 0 2 2,.nils,i6 5,.nils,i6 0]
def b3:List Vc.At := [.lsl 995 0 2 2,.nils,i6 1,.lsl 999 0 2 2,.nils,i6 5,.nils,i6 0]
def b4:List Vc.At := [i6 1,i6 1,.str [119,105,110,100],i6 10,i6 0,i6 15,.nils]
def b5:List Vc.At := [i6 1,i6 0,.str [119,105,110,100],i6 0,i6 0,i6 15,.nils]
def b6:List Vc.At := [.str [113],i6 0,i6 1,.lsl 284 0 1 1,.nils,.lsl 285 0 1 1]
def b7:List Vc.At := [i6 1,i6 0,.str [114,97,105,110],i6 0,i6 5,i6 0,.nils]
def b8:List Vc.At := [.own 1007,.nils,i6 1,.own 1015,.nils,i6 5,.nils,i6 0]
def b9:List Vc.At := [.str [113],i6 0,i6 1,.lsl 997 0 1 1,.nils,.own 1031]
def b10:List Vc.At := [i6 3,i6 0,.str [],i6 0,i6 0,i6 0,.lsl 1152 0 2 2]
def b11:List Vc.At := [i6 2,i6 0,.str [],i6 0,i6 0,i6 0,.lsl 1151 0 1 1]
def b12:List Vc.At := [i6 3,i6 0,.str [],i6 0,i6 0,i6 0,.lsl 643 0 2 2]
def b13:List Vc.At := [.str [112],i6 0,i6 2,.nils,.nils,.lsl 283 0 1 1]
def b14:List Vc.At := [.str [112],i6 0,i6 2,.nils,.nils,.own 1023]
def b15:List Vc.At := [i6 1,i6 0,.str [98],i6 0,i6 5,i6 0,.nils]
def b16:List Vc.At := [i6 1,i6 0,.str [97],i6 0,i6 5,i6 0,.nils]
def b17:List Vc.At := [i6 0,i6 4,.str [109,111,115,116],bf,bf]
def b18:List Vc.At := [i6 0,i6 0,.str [],i6 0,i6 0,i6 0,.nils]
def b19:List Vc.At := [.str [119,105,110,100],i6 5,i6 10]
def b20:List Vc.At := [.str [119,105,110,100],i6 6,i6 20]
def b21:List Vc.At := [.str [119,105,110,100],i6 0,i6 10]
def l0:List (Nat × Vc.SV) := [(3,c1 (i6 4)),(2,c1 (i6 8)),(1,cl 38 0),(23,c1 (i6 4)),(22,c1 (i6 8)),(21,.cv (.agg b18)),(19,.tup [.agg b18,.one (i6 8),.one (i6 4)]),(20,.tup [.agg b18,.one (i6 8),.one (i6 4)]),(0,c1 bf)]
def l1:List (Nat × Vc.SV):=(5,c1 (i6 0))::(4,c1 (i6 1))::(30,c1 (i6 0))::(29,c1 (i6 1))::(24,.tup [.one (i6 1),.one (i6 0)])::(28,.tup [.one (i6 1),.one (i6 0)])::(27,c1 ((.lsl 81 0 1 1)))::(26,.cv (.agg b19))::(25,.cv (.agg b5))::l0
def l2:List (Nat × Vc.SV):=(7,c1 (i6 0))::(6,c1 (i6 0))::(37,c1 (i6 0))::(36,c1 (i6 0))::(31,.tup [.one (i6 0),.one (i6 0)])::(35,.tup [.one (i6 0),.one (i6 0)])::(34,c1 ((.lsl 147 0 1 1)))::(33,.cv (.agg b19))::(32,.cv (.agg b5))::l1
def l3:List (Nat × Vc.SV):=(9,c1 (i6 0))::(8,c1 ((i6 (-1))))::(45,c1 (i6 0))::(44,c1 ((i6 (-1))))::(38,.tup [.one (i6 (-1)),.one (i6 0)])::(43,.tup [.one (i6 (-1)),.one (i6 0)])::(42,c1 ((.lsl 237 0 2 2)))::(41,.cv (.agg b20))::(40,.cv (.agg b21))::(39,.cv (.agg b4))::l2
def l4:List (Nat × Vc.SV):=(11,c1 (i6 0))::(10,c1 ((.own 577)))::(51,c1 (i6 0))::(50,c1 ((.own 577)))::(46,.tup [.one (.own 577),.one (i6 0)])::(49,.tup [.one (.own 577),.one (i6 0)])::(48,.cv (.agg b15))::(47,.cv (.agg b1))::l3
def l5:List (Nat × Vc.SV):=(13,c1 (i6 7))::(12,c1 ((.nils)))::(57,c1 (i6 7))::(56,c1 ((.nils)))::(52,.tup [.one (.nils),.one (i6 7)])::(55,.tup [.one (.nils),.one (i6 7)])::(54,.cv (.agg b12))::(53,.cv (.agg b2))::l4
def l6:List (Nat × Vc.SV):=(15,c1 (i6 0))::(14,cl 1083 0)::(62,c1 (i6 0))::(61,cl 1083 0)::(58,.tup [.one (.loc 1083 0),.one (i6 0)])::(60,.tup [.one (.loc 1083 0),.one (i6 0)])::(59,.cv (.agg b3))::l5
def l7:List (Nat × Vc.SV):=(68,c1 bf)::(68,c1 bf)::(67,c1 bf)::(65,c1 bf)::(66,cl 1083 0)::(65,c1 bf)::(65,c1 bf)::(64,c1 bf)::(63,c1 (i6 0))::l6
def l8:List (Nat × Vc.SV):=(18,c1 bf)::(17,c1 bf)::(16,c1 (i6 5))::(74,c1 bf)::(73,c1 bf)::(72,c1 (i6 5))::(69,.tup [.one (i6 5),.one (bf),.one (bf)])::(71,.tup [.one (i6 5),.one (bf),.one (bf)])::(70,cl 1083 0)::l7
def l9:Vc.Mem := [(38,b18,30)]
def l10:Vc.Mem:=(104,[i6 10,i6 10],201)::(103,b19,61)::(102,[i6 10,i6 10],201)::(101,b5,30)::(100,[.lsl 81 0 1 1,i6 8,i6 5],130)::(99,b5,183)::(94,b19,61)::(85,b5,30)::(84,[i6 1],163)::(83,b5,30)::(82,b5,30)::(81,b19,61)::(80,b5,30)::(39,b5,30)::l9
def l11:Vc.Mem:=(170,[i6 (-1099511627776),i6 1099511627776],201)::(169,b19,61)::(168,[i6 (-1099511627776),i6 1099511627776],201)::(167,b5,30)::(166,[.lsl 147 0 1 1,i6 11,i6 5],130)::(165,b5,183)::(160,b19,61)::(151,b5,30)::(150,[i6 1],163)::(149,b5,30)::(148,b5,30)::(147,b19,61)::(146,b5,30)::(105,b5,30)::l10
def l12:Vc.Mem:=(280,[i6 20,i6 1099511627776],201)::(279,b20,61)::(278,b21,61)::(277,[i6 20,i6 1099511627776],201)::(276,b20,61)::(275,b21,61)::(270,b21,61)::(265,b20,61)::(264,[.lsl 237 0 2 2,i6 12,i6 5],130)::(263,[i6 20,i6 1099511627776],201)::(262,b4,30)::(261,[.lsl 237 0 2 2,i6 12,i6 5],130)::(260,b4,183)::(255,b20,61)::(250,b21,61)::(241,b4,30)::(240,[i6 1],163)::(239,b4,30)::(238,b4,30)::(237,b0,61)::(236,b4,30)::(231,b4,30)::(230,[i6 1],163)::(229,b4,30)::(228,b4,30)::(227,b4,30)::(226,b4,183)::(179,[.str [109,111,115,116,40,119,105,110,100,44,32,49,48,41,32,60,32,49,53],i6 19,i6 19,.str [],bf,bf],114)::(178,b17,111)::(177,b17,111)::(176,[i6 0],3)::(175,[.str [109,111,115,116,40,119,105,110,100,44,32,49,48,41,32,60,32,49,53]],9)::(174,[i6 0],34)::(173,[i6 0],3)::(172,b4,30)::(171,b4,30)::l11
def l13:Vc.Mem:=(373,b15,30)::(372,[i6 1],163)::(371,b15,30)::(366,b16,30)::(365,[i6 1],163)::(364,b16,30)::(363,b6,87)::(362,b13,87)::(333,[.str [113]],9)::(332,b6,87)::(327,[.str [112]],9)::(326,b13,87)::(325,[.lsl 282 0 2 2,.nils,i6 1,.lsl 286 0 2 2,.nils,i6 5,.nils,i6 0,.nili,.val 12,.nili,.nili,.nili,.nili,.nili,.nili,.nili,.nili,.nili,.nili,.nils,.nils],144)::(324,b1,28)::(323,b15,30)::(322,b1,28)::(321,b15,30)::(287,b15,30)::(286,[.str [112],i6 0,i6 2,.nils,.nils,.lsl 283 0 1 1,.str [113],i6 0,i6 1,.lsl 284 0 1 1,.nils,.lsl 285 0 1 1],87)::(285,[i6 1],3)::(284,b16,30)::(283,[i6 0],3)::(282,[.str [97],.str [98]],9)::(281,b1,28)::l12
def l14:Vc.Mem:=(677,b12,30)::(643,[i6 1,i6 0,.str [98],i6 0,i6 5,i6 0,.nils,i6 2,i6 0,.str [],i6 0,i6 0,i6 0,.lsl 642 0 1 1],30)::(642,b16,30)::(587,b12,30)::(586,[.str [112],i6 0,i6 2,.nils,.nils,.lsl 583 0 1 1,.str [113],i6 0,i6 1,.lsl 584 0 1 1,.nils,.lsl 585 0 1 1],87)::(585,[i6 1],3)::(584,b16,30)::(583,[i6 0],3)::(582,[.str [97],.str [98]],9)::(581,b2,28)::l13
def l15:Vc.Mem:=(1084,[.loc 1083 0],75)::(1083,[.loc 1036 0,.int .i8 (.lit (0)),.int .i8 (.lit (0)),.int .i8 (.lit (0)),.int .i8 (.lit (0)),.int .i8 (.lit (0)),.int .i8 (.lit (0)),.int .i8 (.lit (0)),.int .i8 (.lit (0)),.int .i8 (.lit (0)),.int .i8 (.lit (0)),.int .i8 (.lit (0)),.int .i8 (.lit (0)),.int .u32 (.lit (0)),i6 0,i6 5,bf,bf,.own 1085,.nils],153)::(1082,[.int .i8 (.lit (0)),.int .i8 (.lit (0)),.int .i8 (.lit (0)),.int .i8 (.lit (0)),.int .i8 (.lit (0)),.int .i8 (.lit (0)),.int .i8 (.lit (0)),.int .i8 (.lit (0)),.int .i8 (.lit (0)),.int .i8 (.lit (0)),.int .i8 (.lit (0)),.int .i8 (.lit (0)),.int .u32 (.lit (0))],150)::(1077,b16,30)::(1076,[i6 1],163)::(1075,b16,30)::(1074,b9,87)::(1073,b14,87)::(1044,[.str [113]],9)::(1043,b9,87)::(1038,[.str [112]],9)::(1037,b14,87)::(1036,[.own 1007,.nils,i6 1,.own 1015,.nils,i6 5,.nils,i6 0,.nili,.val 27,.nili,.nili,.nili,.nili,.nili,.nili,.nili,.nili,.nili,.nili,.nils,.nils],144)::(1035,b8,28)::(1002,b8,28)::(1001,b8,28)::(1000,b3,28)::(999,[.str [112],i6 0,i6 2,.nils,.nils,.lsl 996 0 1 1,.str [113],i6 0,i6 1,.lsl 997 0 1 1,.nils,.lsl 998 0 1 1],87)::(998,[i6 1],3)::(997,b16,30)::(996,[i6 0],3)::(995,[.str [97],.str [98]],9)::(994,b3,28)::l14
def l16:Vc.OMem := [(95,[.ats [.int .u8 (.lit (119)),.int .u8 (.lit (105)),.int .u8 (.lit (110)),.int .u8 (.lit (100))]],0,0),(90,[.ats [.str [119,105,110,100],i6 5]],0,2097154),(86,[.ats [.int .u8 (.lit (119)),.int .u8 (.lit (105)),.int .u8 (.lit (110)),.int .u8 (.lit (100))]],0,0)]
def l17:Vc.OMem:=(161,[.ats [.int .u8 (.lit (119)),.int .u8 (.lit (105)),.int .u8 (.lit (110)),.int .u8 (.lit (100))]],0,0)::(156,[.ats [.str [119,105,110,100],i6 5]],0,2097154)::(152,[.ats [.int .u8 (.lit (119)),.int .u8 (.lit (105)),.int .u8 (.lit (110)),.int .u8 (.lit (100))]],0,0)::l16
def l18:Vc.OMem:=(271,[.ats b0],3,61)::(256,[.ats [.int .u8 (.lit (119)),.int .u8 (.lit (105)),.int .u8 (.lit (110)),.int .u8 (.lit (100))]],0,0)::(251,[.ats [.int .u8 (.lit (119)),.int .u8 (.lit (105)),.int .u8 (.lit (110)),.int .u8 (.lit (100))]],0,0)::(246,[.ats [.str [119,105,110,100],i6 6]],0,2097154)::(242,[.ats [.int .u8 (.lit (119)),.int .u8 (.lit (105)),.int .u8 (.lit (110)),.int .u8 (.lit (100))]],0,0)::(232,[.ats [.int .u8 (.lit (119)),.int .u8 (.lit (105)),.int .u8 (.lit (110)),.int .u8 (.lit (100))]],0,0)::l17
def l19:Vc.OMem:=(577,[.ats [i6 0,i6 (-1),i6 (-1),i6 1,i6 (-1)]],1,3)::(374,[.ats [.int .u8 (.lit (98))]],0,0)::(367,[.ats [.int .u8 (.lit (97))]],0,0)::(358,[.ats [.int .u8 (.lit (113))]],0,0)::(354,[.ats [.int .u8 (.lit (112))]],0,0)::(350,[.ats [.str [112],bt,.str [113],bt]],0,2097154)::(346,[.ats [.int .u8 (.lit (98))]],0,0)::(342,[.ats [.int .u8 (.lit (97))]],0,0)::(338,[.ats [.str [97],bt,.str [98],bt]],0,2097154)::(334,[.ats [.str [112],.str [113]]],1,9)::l18
def l20:Vc.OMem:=(1085,[.ats [bf]],1,4)::(1078,[.ats [.int .u8 (.lit (97))]],0,0)::(1069,[.ats [.int .u8 (.lit (113))]],0,0)::(1065,[.ats [.int .u8 (.lit (112))]],0,0)::(1061,[.ats [.str [112],bt,.str [113],bt]],0,2097154)::(1057,[.ats [.int .u8 (.lit (98))]],0,0)::(1053,[.ats [.int .u8 (.lit (97))]],0,0)::(1049,[.ats [.str [97],bt,.str [98],bt]],0,2097154)::(1045,[.ats [.str [112],.str [113]]],1,9)::(1031,[.ats [i6 1]],1,3)::(1023,[.ats [i6 0]],1,3)::(1015,[.ats [.str [112],i6 0,i6 2,.nils,.nils,.own 1023,.str [113],i6 0,i6 1,.lsl 997 0 1 1,.nils,.own 1031]],6,87)::(1007,[.ats [.str [97],.str [98]]],1,9)::l19
def l21:Vc.KnL := [.glo 0 0,.glo 1 1,.glo 2 2,.glo 3 3]
def l22:Vc.KnL := .ifc 3 183 (.agg b5) :: .ifc 2 183 (.agg b5) :: .ifc 1 183 (.agg b5) :: .ifc 0 108 (.agg [i6 8,i6 4])::l21
def l23:Vc.KnL := .ifc 6 183 (.agg b5) :: .ifc 5 183 (.agg b5) :: .ifc 4 183 (.agg b5)::l22
def l24:Vc.KnL := .ifc 9 183 (.agg b4) :: .ifc 8 183 (.agg b4) :: .ifc 7 183 (.agg b4)::l23
def l25:Vc.KnL := .ifc 13 183 (.agg b15) :: .ifc 12 183 (.agg b16) :: .ifc 11 183 (.agg b15) :: .ifc 10 183 (.agg b15)::l24
def l26:Vc.KnL := .ifc 26 180 (.agg [.val 23,.val 25]) :: .ifc 25 176 (.agg [.val 24]) :: .ifc 24 183 (.agg b16) :: .ifc 23 183 (.agg b15) :: .ifc 22 183 (.agg b16) :: .ifc 21 180 (.agg [.val 18,.val 20]) :: .ifc 20 176 (.agg [.val 19]) :: .ifc 19 183 (.agg b16) :: .ifc 18 183 (.agg b15) :: .ifc 17 180 (.agg [.val 14,.val 16]) :: .ifc 16 176 (.agg [.val 15]) :: .ifc 15 183 (.agg b16) :: .ifc 14 183 (.agg b15)::l25
def l27:Vc.KnL := .ifc 27 183 (.agg b16)::l26
def cuS_z0:Vc.St:=⟨[],127,[],⟨0,0,0,4,0,0,0⟩,[],[],[],l21,[]⟩
def cuS_z1:Vc.St:=⟨[(0,c1 bf)],127,[],⟨0,0,0,4,0,0,0⟩,[],[],[],l21,[]⟩
def cuW_z0{R:Type}(A:Vc.Alg R)(r:R):R:=r
theorem zwda{R:Type}(A:Vc.Alg R)(yl:Vc.Yl R)(K:Vc.Ex→Vc.St→R):Vc.exec A (⟨Tryz.prog,fcalls,fext,cuI_z,cuG_z,globs,cuL_z,[]⟩:Vc.Cfg) 199 none yl (Vc.seqHd ((Tryz.f16.body).getD .skip)) cuS_z0 K=cuW_z0 A (K .normal cuS_z1):=by kernel_rfl
theorem zxda{R:Type}(A:Vc.Alg R)(yl:Vc.Yl R)(K:Vc.Ex→Vc.St→R):Vc.exec A (⟨Tryz.prog,fcalls,fext,cuI_z,cuG_z,globs,cuL_z,[]⟩:Vc.Cfg) 200 none yl ((Tryz.f16.body).getD .skip) cuS_z0 K=cuW_z0 A (Vc.exec A (⟨Tryz.prog,fcalls,fext,cuI_z,cuG_z,globs,cuL_z,[]⟩:Vc.Cfg) 199 none yl (Vc.seqTl ((Tryz.f16.body).getD .skip)) cuS_z1 K):=Vc.zec (by kernel_rfl) (zwda A yl)
def cuS_z2:Vc.St:=⟨l0,127,l9,⟨0,0,1,4,39,0,0⟩,[],[],[],.ifc 0 108 (.agg [i6 8,i6 4])::l21,[]⟩
def cuW_z1{R:Type}(A:Vc.Alg R)(r:R):R:=A.glo 0 gl0 184<|A.glo 2 gl2 194<|A.glo 2 gl2 194<|A.glo 2 gl2 194<|A.glo 2 gl2 194<|A.glo 2 gl2 194<|A.glo 2 gl2 194<|A.glo 2 gl2 194<|A.glo 2 gl2 194<|A.glo 2 gl2 194<|A.glo 2 gl2 194<|A.glo 2 gl2 194<|A.glo 0 gl0 184<|A.glo 0 gl0 184<|A.glo 2 gl2 194<|A.glo 2 gl2 194<|A.glo 2 gl2 194<|A.glo 2 gl2 194<|A.glo 2 gl2 194<|A.glo 2 gl2 194<|A.glo 2 gl2 194<|A.glo 2 gl2 194<|A.glo 2 gl2 194<|A.glo 2 gl2 194<|A.glo 2 gl2 194<|A.glo 2 gl2 194<|A.glo 2 gl2 194<|A.glo 2 gl2 194<|A.glo 2 gl2 194<|A.glo 2 gl2 194<|A.glo 2 gl2 194<|A.glo 2 gl2 194<|A.glo 2 gl2 194<|A.glo 2 gl2 194<|A.glo 2 gl2 194<|A.glo 2 gl2 194<|A.glo 2 gl2 194<|A.glo 2 gl2 194<|A.glo 2 gl2 194<|A.ifc 0 108 (.agg [i6 8,i6 4])<|r
theorem zyda{R:Type}(A:Vc.Alg R)(yl:Vc.Yl R)(K:Vc.Ex→Vc.St→R):Vc.exec A (⟨Tryz.prog,fcalls,fext,cuI_z,cuG_z,globs,cuL_z,[]⟩:Vc.Cfg) 198 none yl (Vc.seqHd (Vc.seqTl ((Tryz.f16.body).getD .skip))) cuS_z1 K=cuW_z1 A (K .normal cuS_z2):=by kernel_rfl
theorem zzda{R:Type}(A:Vc.Alg R)(yl:Vc.Yl R)(K:Vc.Ex→Vc.St→R):Vc.exec A (⟨Tryz.prog,fcalls,fext,cuI_z,cuG_z,globs,cuL_z,[]⟩:Vc.Cfg) 199 none yl (Vc.seqTl ((Tryz.f16.body).getD .skip)) cuS_z1 K=cuW_z1 A (Vc.exec A (⟨Tryz.prog,fcalls,fext,cuI_z,cuG_z,globs,cuL_z,[]⟩:Vc.Cfg) 198 none yl (Vc.seqTl (Vc.seqTl ((Tryz.f16.body).getD .skip))) cuS_z2 K):=Vc.zec (by kernel_rfl) (zyda A yl)
def cuS_z3:Vc.St:=⟨l1,127,l10,⟨0,0,4,4,105,0,0⟩,l16,[],[],l22,[]⟩
def cuW_z2{R:Type}(A:Vc.Alg R)(r:R):R:=A.glo 0 gl0 184<|A.glo 0 gl0 184<|A.glo 0 gl0 184<|A.glo 0 gl0 184<|A.glo 2 gl2 194<|A.glo 2 gl2 194<|A.glo 2 gl2 194<|A.glo 2 gl2 194<|A.glo 2 gl2 194<|A.glo 2 gl2 194<|A.glo 1 gl1 189<|A.ifc 1 183 (.agg [i6 1,i6 0,.str [119,105,110,100],i6 0,i6 0,i6 15,.nils])<|A.glo 0 gl0 184<|A.glo 0 gl0 184<|A.ifc 2 183 (.agg [i6 1,i6 0,.str [119,105,110,100],i6 0,i6 0,i6 15,.nils])<|A.glo 0 gl0 184<|A.glo 0 gl0 184<|A.ifc 3 183 (.agg [i6 1,i6 0,.str [119,105,110,100],i6 0,i6 0,i6 15,.nils])<|A.glo 0 gl0 184<|A.glo 0 gl0 184<|A.glo 1 gl1 189<|r
theorem zaea{R:Type}(A:Vc.Alg R)(yl:Vc.Yl R)(K:Vc.Ex→Vc.St→R):Vc.exec A (⟨Tryz.prog,fcalls,fext,cuI_z,cuG_z,globs,cuL_z,[]⟩:Vc.Cfg) 197 none yl (Vc.seqHd (Vc.seqTl (Vc.seqTl ((Tryz.f16.body).getD .skip)))) cuS_z2 K=cuW_z2 A (K .normal cuS_z3):=by kernel_rfl
theorem zbea{R:Type}(A:Vc.Alg R)(yl:Vc.Yl R)(K:Vc.Ex→Vc.St→R):Vc.exec A (⟨Tryz.prog,fcalls,fext,cuI_z,cuG_z,globs,cuL_z,[]⟩:Vc.Cfg) 198 none yl (Vc.seqTl (Vc.seqTl ((Tryz.f16.body).getD .skip))) cuS_z2 K=cuW_z2 A (Vc.exec A (⟨Tryz.prog,fcalls,fext,cuI_z,cuG_z,globs,cuL_z,[]⟩:Vc.Cfg) 197 none yl (Vc.seqTl (Vc.seqTl (Vc.seqTl ((Tryz.f16.body).getD .skip)))) cuS_z3 K):=Vc.zec (by kernel_rfl) (zaea A yl)
def cuS_z4:Vc.St:=⟨l2,127,l11,⟨0,0,7,4,171,0,0⟩,l17,[],[],l23,[]⟩
def cuW_z3{R:Type}(A:Vc.Alg R)(r:R):R:=A.glo 0 gl0 184<|A.glo 0 gl0 184<|A.glo 0 gl0 184<|A.glo 0 gl0 184<|A.glo 2 gl2 194<|A.glo 2 gl2 194<|A.glo 2 gl2 194<|A.glo 2 gl2 194<|A.glo 2 gl2 194<|A.glo 2 gl2 194<|A.glo 1 gl1 189<|A.ifc 4 183 (.agg [i6 1,i6 0,.str [119,105,110,100],i6 0,i6 0,i6 15,.nils])<|A.glo 0 gl0 184<|A.glo 0 gl0 184<|A.ifc 5 183 (.agg [i6 1,i6 0,.str [119,105,110,100],i6 0,i6 0,i6 15,.nils])<|A.glo 0 gl0 184<|A.glo 0 gl0 184<|A.ifc 6 183 (.agg [i6 1,i6 0,.str [119,105,110,100],i6 0,i6 0,i6 15,.nils])<|A.glo 0 gl0 184<|A.glo 0 gl0 184<|A.glo 3 gl3 201<|A.glo 1 gl1 189<|r
theorem zcea{R:Type}(A:Vc.Alg R)(yl:Vc.Yl R)(K:Vc.Ex→Vc.St→R):Vc.exec A (⟨Tryz.prog,fcalls,fext,cuI_z,cuG_z,globs,cuL_z,[]⟩:Vc.Cfg) 196 none yl (Vc.seqHd (Vc.seqTl (Vc.seqTl (Vc.seqTl ((Tryz.f16.body).getD .skip))))) cuS_z3 K=cuW_z3 A (K .normal cuS_z4):=by kernel_rfl
theorem zdea{R:Type}(A:Vc.Alg R)(yl:Vc.Yl R)(K:Vc.Ex→Vc.St→R):Vc.exec A (⟨Tryz.prog,fcalls,fext,cuI_z,cuG_z,globs,cuL_z,[]⟩:Vc.Cfg) 197 none yl (Vc.seqTl (Vc.seqTl (Vc.seqTl ((Tryz.f16.body).getD .skip)))) cuS_z3 K=cuW_z3 A (Vc.exec A (⟨Tryz.prog,fcalls,fext,cuI_z,cuG_z,globs,cuL_z,[]⟩:Vc.Cfg) 196 none yl (Vc.seqTl (Vc.seqTl (Vc.seqTl (Vc.seqTl ((Tryz.f16.body).getD .skip))))) cuS_z4 K):=Vc.zec (by kernel_rfl) (zcea A yl)
def cuS_z5:Vc.St:=⟨l3,127,l12,⟨0,0,10,4,281,0,0⟩,l18,[],[],l24,[]⟩
def cuW_z4{R:Type}(A:Vc.Alg R)(r:R):R:=A.glo 0 gl0 184<|A.glo 2 gl2 194<|A.glo 2 gl2 194<|A.glo 2 gl2 194<|A.glo 2 gl2 194<|A.glo 2 gl2 194<|A.glo 2 gl2 194<|A.glo 2 gl2 194<|A.glo 2 gl2 194<|A.glo 2 gl2 194<|A.glo 2 gl2 194<|A.glo 2 gl2 194<|A.glo 0 gl0 184<|A.glo 0 gl0 184<|A.glo 2 gl2 194<|A.glo 2 gl2 194<|A.glo 2 gl2 194<|A.glo 2 gl2 194<|A.glo 2 gl2 194<|A.glo 2 gl2 194<|A.glo 2 gl2 194<|A.glo 2 gl2 194<|A.glo 2 gl2 194<|A.glo 2 gl2 194<|A.glo 2 gl2 194<|A.glo 2 gl2 194<|A.glo 2 gl2 194<|A.glo 2 gl2 194<|A.glo 2 gl2 194<|A.glo 2 gl2 194<|A.glo 2 gl2 194<|A.glo 2 gl2 194<|A.glo 2 gl2 194<|A.glo 2 gl2 194<|A.glo 2 gl2 194<|A.glo 2 gl2 194<|A.glo 2 gl2 194<|A.glo 2 gl2 194<|A.glo 2 gl2 194<|A.glo 2 gl2 194<|A.glo 2 gl2 194<|A.glo 2 gl2 194<|A.glo 2 gl2 194<|A.glo 2 gl2 194<|A.glo 2 gl2 194<|A.glo 1 gl1 189<|A.ifc 7 183 (.agg [i6 1,i6 1,.str [119,105,110,100],i6 10,i6 0,i6 15,.nils])<|A.glo 0 gl0 184<|A.glo 0 gl0 184<|A.ifc 8 183 (.agg [i6 1,i6 1,.str [119,105,110,100],i6 10,i6 0,i6 15,.nils])<|A.glo 0 gl0 184<|A.glo 0 gl0 184<|A.ifc 9 183 (.agg [i6 1,i6 1,.str [119,105,110,100],i6 10,i6 0,i6 15,.nils])<|A.glo 0 gl0 184<|A.glo 0 gl0 184<|A.glo 0 gl0 184<|A.glo 0 gl0 184<|A.gcall 154 [c1 ((.own 266)),c1 (i6 0),c1 ((.lsl 270 0 1 1))] [(270,[.str [119,105,110,100],i6 0,i6 10],61)] [(266,[.ats [.str [119,105,110,100],i6 6,i6 20]],3,61)] 266 [.ats [.str [119,105,110,100],i6 0,i6 10,.str [119,105,110,100],i6 6,i6 20]] 3 61<|A.glo 3 gl3 201<|A.glo 1 gl1 189<|r
theorem zeea{R:Type}(A:Vc.Alg R)(yl:Vc.Yl R)(K:Vc.Ex→Vc.St→R):Vc.exec A (⟨Tryz.prog,fcalls,fext,cuI_z,cuG_z,globs,cuL_z,[]⟩:Vc.Cfg) 195 none yl (Vc.seqHd (Vc.seqTl (Vc.seqTl (Vc.seqTl (Vc.seqTl ((Tryz.f16.body).getD .skip)))))) cuS_z4 K=cuW_z4 A (K .normal cuS_z5):=by kernel_rfl
theorem zfea{R:Type}(A:Vc.Alg R)(yl:Vc.Yl R)(K:Vc.Ex→Vc.St→R):Vc.exec A (⟨Tryz.prog,fcalls,fext,cuI_z,cuG_z,globs,cuL_z,[]⟩:Vc.Cfg) 196 none yl (Vc.seqTl (Vc.seqTl (Vc.seqTl (Vc.seqTl ((Tryz.f16.body).getD .skip))))) cuS_z4 K=cuW_z4 A (Vc.exec A (⟨Tryz.prog,fcalls,fext,cuI_z,cuG_z,globs,cuL_z,[]⟩:Vc.Cfg) 195 none yl (Vc.seqTl (Vc.seqTl (Vc.seqTl (Vc.seqTl (Vc.seqTl ((Tryz.f16.body).getD .skip)))))) cuS_z5 K):=Vc.zec (by kernel_rfl) (zeea A yl)
def cuS_z6:Vc.St:=⟨l4,127,l13,⟨0,0,14,4,581,0,0⟩,l19,[],[],l25,[]⟩
def cuW_z5{R:Type}(A:Vc.Alg R)(r:R):R:=A.glo 0 gl0 184<|A.glo 0 gl0 184<|A.glo 0 gl0 184<|A.glo 0 gl0 184<|A.glo 1 gl1 189<|A.ifc 10 183 (.agg [i6 1,i6 0,.str [98],i6 0,i6 5,i6 0,.nils])<|A.glo 0 gl0 184<|A.glo 0 gl0 184<|A.ifc 11 183 (.agg [i6 1,i6 0,.str [98],i6 0,i6 5,i6 0,.nils])<|A.glo 0 gl0 184<|A.glo 0 gl0 184<|A.glo 0 gl0 184<|A.glo 0 gl0 184<|A.glo 0 gl0 184<|A.glo 0 gl0 184<|A.glo 0 gl0 184<|A.glo 0 gl0 184<|A.glo 0 gl0 184<|A.glo 0 gl0 184<|A.ifc 12 183 (.agg [i6 1,i6 0,.str [97],i6 0,i6 5,i6 0,.nils])<|A.glo 0 gl0 184<|A.glo 0 gl0 184<|A.ifc 13 183 (.agg [i6 1,i6 0,.str [98],i6 0,i6 5,i6 0,.nils])<|A.glo 1 gl1 189<|A.glo 1 gl1 189<|A.glo 1 gl1 189<|A.glo 1 gl1 189<|A.glo 1 gl1 189<|A.glo 1 gl1 189<|A.glo 1 gl1 189<|A.glo 1 gl1 189<|r
theorem zgea{R:Type}(A:Vc.Alg R)(yl:Vc.Yl R)(K:Vc.Ex→Vc.St→R):Vc.exec A (⟨Tryz.prog,fcalls,fext,cuI_z,cuG_z,globs,cuL_z,[]⟩:Vc.Cfg) 194 none yl (Vc.seqHd (Vc.seqTl (Vc.seqTl (Vc.seqTl (Vc.seqTl (Vc.seqTl ((Tryz.f16.body).getD .skip))))))) cuS_z5 K=cuW_z5 A (K .normal cuS_z6):=by kernel_rfl
theorem zhea{R:Type}(A:Vc.Alg R)(yl:Vc.Yl R)(K:Vc.Ex→Vc.St→R):Vc.exec A (⟨Tryz.prog,fcalls,fext,cuI_z,cuG_z,globs,cuL_z,[]⟩:Vc.Cfg) 195 none yl (Vc.seqTl (Vc.seqTl (Vc.seqTl (Vc.seqTl (Vc.seqTl ((Tryz.f16.body).getD .skip)))))) cuS_z5 K=cuW_z5 A (Vc.exec A (⟨Tryz.prog,fcalls,fext,cuI_z,cuG_z,globs,cuL_z,[]⟩:Vc.Cfg) 194 none yl (Vc.seqTl (Vc.seqTl (Vc.seqTl (Vc.seqTl (Vc.seqTl (Vc.seqTl ((Tryz.f16.body).getD .skip))))))) cuS_z6 K):=Vc.zec (by kernel_rfl) (zgea A yl)
def cuS_z7:Vc.St:=⟨l5,127,l14,⟨0,0,27,4,994,0,0⟩,l19,[],[],l26,[]⟩
def cuW_z6{R:Type}(A:Vc.Alg R)(r:R):R:=A.glo 0 gl0 184<|A.glo 0 gl0 184<|A.glo 0 gl0 184<|A.glo 0 gl0 184<|A.glo 2 gl2 194<|A.glo 2 gl2 194<|A.glo 2 gl2 194<|A.glo 2 gl2 194<|A.glo 2 gl2 194<|A.glo 2 gl2 194<|A.glo 2 gl2 194<|A.glo 2 gl2 194<|A.glo 2 gl2 194<|A.glo 1 gl1 189<|A.ifc 14 183 (.agg [i6 1,i6 0,.str [98],i6 0,i6 5,i6 0,.nils])<|A.glo 2 gl2 194<|A.glo 2 gl2 194<|A.glo 2 gl2 194<|A.glo 2 gl2 194<|A.glo 2 gl2 194<|A.glo 2 gl2 194<|A.glo 2 gl2 194<|A.glo 2 gl2 194<|A.glo 2 gl2 194<|A.glo 2 gl2 194<|A.glo 0 gl0 184<|A.glo 0 gl0 184<|A.glo 0 gl0 184<|A.glo 0 gl0 184<|A.glo 1 gl1 189<|A.ifc 15 183 (.agg [i6 1,i6 0,.str [97],i6 0,i6 5,i6 0,.nils])<|A.ifc 16 176 (.agg [.val 15])<|A.ifc 17 180 (.agg [.val 14,.val 16])<|A.glo 0 gl0 184<|A.glo 0 gl0 184<|A.ifc 18 183 (.agg [i6 1,i6 0,.str [98],i6 0,i6 5,i6 0,.nils])<|A.glo 0 gl0 184<|A.glo 0 gl0 184<|A.ifc 19 183 (.agg [i6 1,i6 0,.str [97],i6 0,i6 5,i6 0,.nils])<|A.ifc 20 176 (.agg [.val 19])<|A.ifc 21 180 (.agg [.val 18,.val 20])<|A.glo 0 gl0 184<|A.glo 0 gl0 184<|A.glo 0 gl0 184<|A.glo 0 gl0 184<|A.glo 0 gl0 184<|A.glo 0 gl0 184<|A.glo 0 gl0 184<|A.glo 0 gl0 184<|A.glo 0 gl0 184<|A.glo 0 gl0 184<|A.ifc 22 183 (.agg [i6 1,i6 0,.str [97],i6 0,i6 5,i6 0,.nils])<|A.glo 0 gl0 184<|A.glo 0 gl0 184<|A.ifc 23 183 (.agg [i6 1,i6 0,.str [98],i6 0,i6 5,i6 0,.nils])<|A.glo 0 gl0 184<|A.glo 0 gl0 184<|A.ifc 24 183 (.agg [i6 1,i6 0,.str [97],i6 0,i6 5,i6 0,.nils])<|A.ifc 25 176 (.agg [.val 24])<|A.ifc 26 180 (.agg [.val 23,.val 25])<|A.glo 1 gl1 189<|A.glo 1 gl1 189<|A.glo 1 gl1 189<|A.glo 1 gl1 189<|A.glo 1 gl1 189<|A.glo 1 gl1 189<|A.glo 1 gl1 189<|A.glo 1 gl1 189<|A.glo 1 gl1 189<|A.glo 1 gl1 189<|A.glo 1 gl1 189<|A.glo 1 gl1 189<|A.glo 1 gl1 189<|A.glo 1 gl1 189<|r
theorem ziea{R:Type}(A:Vc.Alg R)(yl:Vc.Yl R)(K:Vc.Ex→Vc.St→R):Vc.exec A (⟨Tryz.prog,fcalls,fext,cuI_z,cuG_z,globs,cuL_z,[]⟩:Vc.Cfg) 193 none yl (Vc.seqHd (Vc.seqTl (Vc.seqTl (Vc.seqTl (Vc.seqTl (Vc.seqTl (Vc.seqTl ((Tryz.f16.body).getD .skip)))))))) cuS_z6 K=cuW_z6 A (K .normal cuS_z7):=by kernel_rfl
theorem zjea{R:Type}(A:Vc.Alg R)(yl:Vc.Yl R)(K:Vc.Ex→Vc.St→R):Vc.exec A (⟨Tryz.prog,fcalls,fext,cuI_z,cuG_z,globs,cuL_z,[]⟩:Vc.Cfg) 194 none yl (Vc.seqTl (Vc.seqTl (Vc.seqTl (Vc.seqTl (Vc.seqTl (Vc.seqTl ((Tryz.f16.body).getD .skip))))))) cuS_z6 K=cuW_z6 A (Vc.exec A (⟨Tryz.prog,fcalls,fext,cuI_z,cuG_z,globs,cuL_z,[]⟩:Vc.Cfg) 193 none yl (Vc.seqTl (Vc.seqTl (Vc.seqTl (Vc.seqTl (Vc.seqTl (Vc.seqTl (Vc.seqTl ((Tryz.f16.body).getD .skip)))))))) cuS_z7 K):=Vc.zec (by kernel_rfl) (ziea A yl)
def cuS_z8:Vc.St:=⟨l6,127,l15,⟨0,0,28,4,1089,0,0⟩,l20,[],[],l27,[]⟩
def cuW_z7{R:Type}(A:Vc.Alg R)(r:R):R:=A.glo 0 gl0 184<|A.glo 0 gl0 184<|A.glo 0 gl0 184<|A.glo 0 gl0 184<|A.glo 0 gl0 184<|A.glo 0 gl0 184<|A.glo 0 gl0 184<|A.glo 0 gl0 184<|A.glo 0 gl0 184<|A.glo 0 gl0 184<|A.ifc 27 183 (.agg [i6 1,i6 0,.str [97],i6 0,i6 5,i6 0,.nils])<|r
theorem zkea{R:Type}(A:Vc.Alg R)(yl:Vc.Yl R)(K:Vc.Ex→Vc.St→R):Vc.exec A (⟨Tryz.prog,fcalls,fext,cuI_z,cuG_z,globs,cuL_z,[]⟩:Vc.Cfg) 192 none yl (Vc.seqHd (Vc.seqTl (Vc.seqTl (Vc.seqTl (Vc.seqTl (Vc.seqTl (Vc.seqTl (Vc.seqTl ((Tryz.f16.body).getD .skip))))))))) cuS_z7 K=cuW_z7 A (K .normal cuS_z8):=by kernel_rfl
theorem zlea{R:Type}(A:Vc.Alg R)(yl:Vc.Yl R)(K:Vc.Ex→Vc.St→R):Vc.exec A (⟨Tryz.prog,fcalls,fext,cuI_z,cuG_z,globs,cuL_z,[]⟩:Vc.Cfg) 193 none yl (Vc.seqTl (Vc.seqTl (Vc.seqTl (Vc.seqTl (Vc.seqTl (Vc.seqTl (Vc.seqTl ((Tryz.f16.body).getD .skip)))))))) cuS_z7 K=cuW_z7 A (Vc.exec A (⟨Tryz.prog,fcalls,fext,cuI_z,cuG_z,globs,cuL_z,[]⟩:Vc.Cfg) 192 none yl (Vc.seqTl (Vc.seqTl (Vc.seqTl (Vc.seqTl (Vc.seqTl (Vc.seqTl (Vc.seqTl (Vc.seqTl ((Tryz.f16.body).getD .skip))))))))) cuS_z8 K):=Vc.zec (by kernel_rfl) (zkea A yl)
def cuS_z9:Vc.St:=⟨l7,127,l15,⟨0,0,28,4,1089,0,0⟩,l20,[],[],l27,[]⟩
def cuW_z8{R:Type}(A:Vc.Alg R)(r:R):R:=r
theorem zmea{R:Type}(A:Vc.Alg R)(yl:Vc.Yl R)(K:Vc.Ex→Vc.St→R):Vc.exec A (⟨Tryz.prog,fcalls,fext,cuI_z,cuG_z,globs,cuL_z,[]⟩:Vc.Cfg) 191 none yl (Vc.seqHd (Vc.seqTl (Vc.seqTl (Vc.seqTl (Vc.seqTl (Vc.seqTl (Vc.seqTl (Vc.seqTl (Vc.seqTl ((Tryz.f16.body).getD .skip)))))))))) cuS_z8 K=cuW_z8 A (K .normal cuS_z9):=by kernel_rfl
theorem znea{R:Type}(A:Vc.Alg R)(yl:Vc.Yl R)(K:Vc.Ex→Vc.St→R):Vc.exec A (⟨Tryz.prog,fcalls,fext,cuI_z,cuG_z,globs,cuL_z,[]⟩:Vc.Cfg) 192 none yl (Vc.seqTl (Vc.seqTl (Vc.seqTl (Vc.seqTl (Vc.seqTl (Vc.seqTl (Vc.seqTl (Vc.seqTl ((Tryz.f16.body).getD .skip))))))))) cuS_z8 K=cuW_z8 A (Vc.exec A (⟨Tryz.prog,fcalls,fext,cuI_z,cuG_z,globs,cuL_z,[]⟩:Vc.Cfg) 191 none yl (Vc.seqTl (Vc.seqTl (Vc.seqTl (Vc.seqTl (Vc.seqTl (Vc.seqTl (Vc.seqTl (Vc.seqTl (Vc.seqTl ((Tryz.f16.body).getD .skip)))))))))) cuS_z9 K):=Vc.zec (by kernel_rfl) (zmea A yl)
def cuS_z10:Vc.St:=⟨l8,127,l15,⟨0,0,28,4,1089,0,0⟩,l20,[],[],l27,[]⟩
def cuW_z9{R:Type}(A:Vc.Alg R)(r:R):R:=r
theorem zoea{R:Type}(A:Vc.Alg R)(yl:Vc.Yl R)(K:Vc.Ex→Vc.St→R):Vc.exec A (⟨Tryz.prog,fcalls,fext,cuI_z,cuG_z,globs,cuL_z,[]⟩:Vc.Cfg) 190 none yl (Vc.seqHd (Vc.seqTl (Vc.seqTl (Vc.seqTl (Vc.seqTl (Vc.seqTl (Vc.seqTl (Vc.seqTl (Vc.seqTl (Vc.seqTl ((Tryz.f16.body).getD .skip))))))))))) cuS_z9 K=cuW_z9 A (K .normal cuS_z10):=by kernel_rfl
theorem zpea{R:Type}(A:Vc.Alg R)(yl:Vc.Yl R)(K:Vc.Ex→Vc.St→R):Vc.exec A (⟨Tryz.prog,fcalls,fext,cuI_z,cuG_z,globs,cuL_z,[]⟩:Vc.Cfg) 191 none yl (Vc.seqTl (Vc.seqTl (Vc.seqTl (Vc.seqTl (Vc.seqTl (Vc.seqTl (Vc.seqTl (Vc.seqTl (Vc.seqTl ((Tryz.f16.body).getD .skip)))))))))) cuS_z9 K=cuW_z9 A (Vc.exec A (⟨Tryz.prog,fcalls,fext,cuI_z,cuG_z,globs,cuL_z,[]⟩:Vc.Cfg) 190 none yl (Vc.seqTl (Vc.seqTl (Vc.seqTl (Vc.seqTl (Vc.seqTl (Vc.seqTl (Vc.seqTl (Vc.seqTl (Vc.seqTl (Vc.seqTl ((Tryz.f16.body).getD .skip))))))))))) cuS_z10 K):=Vc.zec (by kernel_rfl) (zoea A yl)
def cuS_z11:Vc.St:=⟨(0,c1 bt)::(126,c1 bt)::(125,c1 bt)::(123,c1 bt)::(124,c1 bf)::(123,c1 bt)::(123,c1 bt)::(122,c1 bt)::(121,c1 bt)::(119,c1 bt)::(120,c1 bf)::(119,c1 bt)::(119,c1 bt)::(118,c1 bt)::(117,c1 bt)::(115,c1 bt)::(116,c1 (i6 5))::(115,c1 bt)::(115,c1 bt)::(114,c1 bt)::(113,c1 bt)::(111,c1 bt)::(112,c1 (i6 7))::(111,c1 bt)::(111,c1 bt)::(110,c1 bt)::(109,c1 bt)::(107,c1 bt)::(108,c1 (i6 0))::(107,c1 bt)::(107,c1 bt)::(106,c1 bt)::(105,c1 bt)::(102,c1 bt)::(104,c1 ((.lsl 1229 0 5 5)))::(102,c1 bt)::(103,c1 ((.own 577)))::(102,c1 bt)::(102,c1 bt)::(101,c1 bt)::(100,c1 bt)::(98,c1 bt)::(99,c1 ((i6 (-1))))::(98,c1 bt)::(98,c1 bt)::(97,c1 bt)::(96,c1 bt)::(94,c1 bt)::(95,c1 (i6 0))::(94,c1 bt)::(94,c1 bt)::(93,c1 bt)::(92,c1 bt)::(90,c1 bt)::(91,c1 (i6 0))::(90,c1 bt)::(90,c1 bt)::(89,c1 bt)::(88,c1 bt)::(86,c1 bt)::(87,c1 (i6 1))::(86,c1 bt)::(86,c1 bt)::(85,c1 bt)::(84,c1 bt)::(82,c1 bt)::(83,c1 (i6 4))::(82,c1 bt)::(82,c1 bt)::(81,c1 bt)::(80,c1 bt)::(78,c1 bt)::(79,c1 (i6 8))::(78,c1 bt)::(78,c1 bt)::(77,c1 bt)::(76,c1 ((.str [119,105,110,100,32,60,32,49,53,32,38,32,33,114,97,105,110])))::(75,.cv (.agg b10))::l8,127,(1229,[i6 0,i6 (-1),i6 (-1),i6 1,i6 (-1)],3)::(1228,b7,183)::(1227,[.nili,.nili],180)::(1226,[.nili,.nili],181)::(1225,[.val 37],176)::(1224,[.nili,.nili],180)::(1223,[.nili,.nili],181)::(1222,b5,183)::(1221,[.nili,.nili],181)::(1220,[.val 36,.val 38],180)::(1215,[.val 38],98)::(1210,[.val 37],98)::(1205,b7,30)::(1204,b7,30)::(1203,b11,30)::(1202,b11,30)::(1197,[.val 36],98)::(1192,b5,30)::(1191,b5,30)::(1190,b10,30)::(1189,[i6 4],163)::(1188,b10,30)::(1187,b10,30)::(1186,b10,30)::(1152,[i6 1,i6 0,.str [119,105,110,100],i6 0,i6 0,i6 15,.nils,i6 2,i6 0,.str [],i6 0,i6 0,i6 0,.lsl 1151 0 1 1],30)::(1151,b7,30)::(1089,b10,30)::l15,⟨0,0,40,4,1230,0,0⟩,(1216,[.ats [.val 36,.val 38]],1,98)::(1211,[.ats [.val 37]],1,98)::(1206,[.ats [.int .u8 (.lit (114)),.int .u8 (.lit (97)),.int .u8 (.lit (105)),.int .u8 (.lit (110))]],0,0)::(1193,[.ats [.int .u8 (.lit (119)),.int .u8 (.lit (105)),.int .u8 (.lit (110)),.int .u8 (.lit (100))]],0,0)::l20,[],[],.ifc 39 180 (.agg [.val 36,.val 38]) :: .ifc 38 176 (.agg [.val 37]) :: .ifc 37 183 (.agg b7) :: .ifc 36 183 (.agg b5) :: .ifc 35 180 (.agg [.val 32,.val 34]) :: .ifc 34 176 (.agg [.val 33]) :: .ifc 33 183 (.agg b7) :: .ifc 32 183 (.agg b5) :: .ifc 31 180 (.agg [.val 28,.val 30]) :: .ifc 30 176 (.agg [.val 29]) :: .ifc 29 183 (.agg b7) :: .ifc 28 183 (.agg b5)::l27,[]⟩
def cuW_z10{R:Type}(A:Vc.Alg R)(r:R):R:=A.glo 0 gl0 184<|A.glo 0 gl0 184<|A.glo 0 gl0 184<|A.glo 0 gl0 184<|A.glo 2 gl2 194<|A.glo 2 gl2 194<|A.glo 2 gl2 194<|A.glo 2 gl2 194<|A.glo 2 gl2 194<|A.glo 2 gl2 194<|A.glo 1 gl1 189<|A.glo 2 gl2 194<|A.glo 2 gl2 194<|A.glo 2 gl2 194<|A.glo 2 gl2 194<|A.glo 2 gl2 194<|A.glo 2 gl2 194<|A.glo 2 gl2 194<|A.glo 2 gl2 194<|A.glo 2 gl2 194<|A.ifc 28 183 (.agg [i6 1,i6 0,.str [119,105,110,100],i6 0,i6 0,i6 15,.nils])<|A.glo 2 gl2 194<|A.glo 2 gl2 194<|A.glo 2 gl2 194<|A.glo 2 gl2 194<|A.glo 2 gl2 194<|A.glo 2 gl2 194<|A.glo 2 gl2 194<|A.glo 2 gl2 194<|A.glo 2 gl2 194<|A.glo 2 gl2 194<|A.glo 0 gl0 184<|A.glo 0 gl0 184<|A.glo 0 gl0 184<|A.glo 0 gl0 184<|A.glo 1 gl1 189<|A.ifc 29 183 (.agg [i6 1,i6 0,.str [114,97,105,110],i6 0,i6 5,i6 0,.nils])<|A.ifc 30 176 (.agg [.val 29])<|A.ifc 31 180 (.agg [.val 28,.val 30])<|A.glo 0 gl0 184<|A.glo 0 gl0 184<|A.ifc 32 183 (.agg [i6 1,i6 0,.str [119,105,110,100],i6 0,i6 0,i6 15,.nils])<|A.glo 0 gl0 184<|A.glo 0 gl0 184<|A.ifc 33 183 (.agg [i6 1,i6 0,.str [114,97,105,110],i6 0,i6 5,i6 0,.nils])<|A.ifc 34 176 (.agg [.val 33])<|A.ifc 35 180 (.agg [.val 32,.val 34])<|A.glo 0 gl0 184<|A.glo 0 gl0 184<|A.ifc 36 183 (.agg [i6 1,i6 0,.str [119,105,110,100],i6 0,i6 0,i6 15,.nils])<|A.glo 0 gl0 184<|A.glo 0 gl0 184<|A.ifc 37 183 (.agg [i6 1,i6 0,.str [114,97,105,110],i6 0,i6 5,i6 0,.nils])<|A.ifc 38 176 (.agg [.val 37])<|A.ifc 39 180 (.agg [.val 36,.val 38])<|A.glo 1 gl1 189<|r
theorem zoca{R:Type}(A:Vc.Alg R)(yl:Vc.Yl R)(K:Vc.Ex→Vc.St→R):Vc.exec A (⟨Tryz.prog,fcalls,fext,cuI_z,cuG_z,globs,cuL_z,[]⟩:Vc.Cfg) 189 none yl (Vc.seqHd (Vc.seqTl (Vc.seqTl (Vc.seqTl (Vc.seqTl (Vc.seqTl (Vc.seqTl (Vc.seqTl (Vc.seqTl (Vc.seqTl (Vc.seqTl ((Tryz.f16.body).getD .skip)))))))))))) cuS_z10 K=cuW_z10 A (K .normal cuS_z11):=by kernel_rfl
theorem zpca{R:Type}(A:Vc.Alg R)(yl:Vc.Yl R)(K:Vc.Ex→Vc.St→R):Vc.exec A (⟨Tryz.prog,fcalls,fext,cuI_z,cuG_z,globs,cuL_z,[]⟩:Vc.Cfg) 190 none yl (Vc.seqTl (Vc.seqTl (Vc.seqTl (Vc.seqTl (Vc.seqTl (Vc.seqTl (Vc.seqTl (Vc.seqTl (Vc.seqTl (Vc.seqTl ((Tryz.f16.body).getD .skip))))))))))) cuS_z10 K=cuW_z10 A (Vc.exec A (⟨Tryz.prog,fcalls,fext,cuI_z,cuG_z,globs,cuL_z,[]⟩:Vc.Cfg) 189 none yl (Vc.seqTl (Vc.seqTl (Vc.seqTl (Vc.seqTl (Vc.seqTl (Vc.seqTl (Vc.seqTl (Vc.seqTl (Vc.seqTl (Vc.seqTl (Vc.seqTl ((Tryz.f16.body).getD .skip)))))))))))) cuS_z11 K):=Vc.zec (by kernel_rfl) (zoca A yl)
theorem zjfa(w:World)(v:Value):Vc.execF (Vc.PA Tryz.prog ⟨w,[]⟩ (fun u=>u=v) (fun _ _=>False) (fun _ _=>False)) (⟨Tryz.prog,fcalls,fext,cuI_z,cuG_z,globs,cuL_z,[]⟩:Vc.Cfg) 200 Tryz.f16 ((Tryz.f16.body).getD .skip) [] ⟨0,0,0,4,0,0,0⟩ [.glo 0 0,.glo 1 1,.glo 2 2,.glo 3 3]=(cuW_z0 (Vc.PA Tryz.prog ⟨w,[]⟩ (fun u=>u=v) (fun _ _=>False) (fun _ _=>False))<|cuW_z1 (Vc.PA Tryz.prog ⟨w,[]⟩ (fun u=>u=v) (fun _ _=>False) (fun _ _=>False))<|cuW_z2 (Vc.PA Tryz.prog ⟨w,[]⟩ (fun u=>u=v) (fun _ _=>False) (fun _ _=>False))<|cuW_z3 (Vc.PA Tryz.prog ⟨w,[]⟩ (fun u=>u=v) (fun _ _=>False) (fun _ _=>False))<|cuW_z4 (Vc.PA Tryz.prog ⟨w,[]⟩ (fun u=>u=v) (fun _ _=>False) (fun _ _=>False))<|cuW_z5 (Vc.PA Tryz.prog ⟨w,[]⟩ (fun u=>u=v) (fun _ _=>False) (fun _ _=>False))<|cuW_z6 (Vc.PA Tryz.prog ⟨w,[]⟩ (fun u=>u=v) (fun _ _=>False) (fun _ _=>False))<|cuW_z7 (Vc.PA Tryz.prog ⟨w,[]⟩ (fun u=>u=v) (fun _ _=>False) (fun _ _=>False))<|cuW_z8 (Vc.PA Tryz.prog ⟨w,[]⟩ (fun u=>u=v) (fun _ _=>False) (fun _ _=>False))<|cuW_z9 (Vc.PA Tryz.prog ⟨w,[]⟩ (fun u=>u=v) (fun _ _=>False) (fun _ _=>False))<|cuW_z10 (Vc.PA Tryz.prog ⟨w,[]⟩ (fun u=>u=v) (fun _ _=>False) (fun _ _=>False))<|Vc.exec (Vc.PA Tryz.prog ⟨w,[]⟩ (fun u=>u=v) (fun _ _=>False) (fun _ _=>False)) (⟨Tryz.prog,fcalls,fext,cuI_z,cuG_z,globs,cuL_z,[]⟩:Vc.Cfg) 189 none (Vc.cutY (Vc.PA Tryz.prog ⟨w,[]⟩ (fun u=>u=v) (fun _ _=>False) (fun _ _=>False))) (Vc.seqTl (Vc.seqTl (Vc.seqTl (Vc.seqTl (Vc.seqTl (Vc.seqTl (Vc.seqTl (Vc.seqTl (Vc.seqTl (Vc.seqTl (Vc.seqTl ((Tryz.f16.body).getD .skip)))))))))))) cuS_z11 (Vc.cutK (Vc.PA Tryz.prog ⟨w,[]⟩ (fun u=>u=v) (fun _ _=>False) (fun _ _=>False)) (⟨Tryz.prog,fcalls,fext,cuI_z,cuG_z,globs,cuL_z,[]⟩:Vc.Cfg) 200 Tryz.f16)) :=
 (show _=Vc.exec (Vc.PA Tryz.prog ⟨w,[]⟩ (fun u=>u=v) (fun _ _=>False) (fun _ _=>False)) (⟨Tryz.prog,fcalls,fext,cuI_z,cuG_z,globs,cuL_z,[]⟩:Vc.Cfg) 200 none (Vc.cutY (Vc.PA Tryz.prog ⟨w,[]⟩ (fun u=>u=v) (fun _ _=>False) (fun _ _=>False))) ((Tryz.f16.body).getD .skip) cuS_z0 (Vc.cutK (Vc.PA Tryz.prog ⟨w,[]⟩ (fun u=>u=v) (fun _ _=>False) (fun _ _=>False)) (⟨Tryz.prog,fcalls,fext,cuI_z,cuG_z,globs,cuL_z,[]⟩:Vc.Cfg) 200 Tryz.f16) by kernel_rfl).trans ((zxda _ _ _).trans (congrArg (cuW_z0 _) ((zzda _ _ _).trans (congrArg (cuW_z1 _) ((zbea _ _ _).trans (congrArg (cuW_z2 _) ((zdea _ _ _).trans (congrArg (cuW_z3 _) ((zfea _ _ _).trans (congrArg (cuW_z4 _) ((zhea _ _ _).trans (congrArg (cuW_z5 _) ((zjea _ _ _).trans (congrArg (cuW_z6 _) ((zlea _ _ _).trans (congrArg (cuW_z7 _) ((znea _ _ _).trans (congrArg (cuW_z8 _) ((zpea _ _ _).trans (congrArg (cuW_z9 _) ((zpca _ _ _).trans (congrArg (cuW_z10 _) rfl))))))))))))))))))))))
theorem zbh(w:World)(v:Value)(h :
 Vg_0 w ∧
 Vg_2 w ∧
 Vg_2 w ∧
 Vg_2 w ∧
 Vg_2 w ∧
 Vg_2 w ∧
 Vg_2 w ∧
 Vg_2 w ∧
 Vg_2 w ∧
 Vg_2 w ∧
 Vg_2 w ∧
 Vg_2 w ∧
 Vg_0 w ∧
 Vg_0 w ∧
 Vg_2 w ∧
 Vg_2 w ∧
 Vg_2 w ∧
 Vg_2 w ∧
 Vg_2 w ∧
 Vg_2 w ∧
 Vg_2 w ∧
 Vg_2 w ∧
 Vg_2 w ∧
 Vg_2 w ∧
 Vg_2 w ∧
 Vg_2 w ∧
 Vg_2 w ∧
 Vg_2 w ∧
 Vg_2 w ∧
 Vg_2 w ∧
 Vg_2 w ∧
 Vg_2 w ∧
 Vg_2 w ∧
 Vg_2 w ∧
 Vg_2 w ∧
 Vg_2 w ∧
 Vg_2 w ∧
 Vg_2 w ∧
 Vg_2 w ∧
 ∀ v0:Vc.OV,v0.1=Value.iface 108 (.agg #[.int .i64 8,.int .i64 4]) →
 Vg_0 w ∧
 Vg_0 w ∧
 Vg_0 w ∧
 Vg_0 w ∧
 Vg_2 w ∧
 Vg_2 w ∧
 Vg_2 w ∧
 Vg_2 w ∧
 Vg_2 w ∧
 Vg_2 w ∧
 Vg_1 w ∧
 ∀ v1:Vc.OV,v1.1=Value.iface 183 (.agg #[.int .i64 1,.int .i64 0,.string ⟨(([119,105,110,100]:List UInt8)).toArray⟩,.int .i64 0,.int .i64 0,.int .i64 15,.slice none 0 0]) →
 Vg_0 w ∧
 Vg_0 w ∧
 ∀ v2:Vc.OV,v2.1=Value.iface 183 (.agg #[.int .i64 1,.int .i64 0,.string ⟨(([119,105,110,100]:List UInt8)).toArray⟩,.int .i64 0,.int .i64 0,.int .i64 15,.slice none 0 0]) →
 Vg_0 w ∧
 Vg_0 w ∧
 ∀ v3:Vc.OV,v3.1=Value.iface 183 (.agg #[.int .i64 1,.int .i64 0,.string ⟨(([119,105,110,100]:List UInt8)).toArray⟩,.int .i64 0,.int .i64 0,.int .i64 15,.slice none 0 0]) →
 Vg_0 w ∧
 Vg_0 w ∧
 Vg_1 w ∧
 Vg_0 w ∧
 Vg_0 w ∧
 Vg_0 w ∧
 Vg_0 w ∧
 Vg_2 w ∧
 Vg_2 w ∧
 Vg_2 w ∧
 Vg_2 w ∧
 Vg_2 w ∧
 Vg_2 w ∧
 Vg_1 w ∧
 ∀ v4:Vc.OV,v4.1=Value.iface 183 (.agg #[.int .i64 1,.int .i64 0,.string ⟨(([119,105,110,100]:List UInt8)).toArray⟩,.int .i64 0,.int .i64 0,.int .i64 15,.slice none 0 0]) →
 Vg_0 w ∧
 Vg_0 w ∧
 ∀ v5:Vc.OV,v5.1=Value.iface 183 (.agg #[.int .i64 1,.int .i64 0,.string ⟨(([119,105,110,100]:List UInt8)).toArray⟩,.int .i64 0,.int .i64 0,.int .i64 15,.slice none 0 0]) →
 Vg_0 w ∧
 Vg_0 w ∧
 ∀ v6:Vc.OV,v6.1=Value.iface 183 (.agg #[.int .i64 1,.int .i64 0,.string ⟨(([119,105,110,100]:List UInt8)).toArray⟩,.int .i64 0,.int .i64 0,.int .i64 15,.slice none 0 0]) →
 Vg_0 w ∧
 Vg_0 w ∧
 Vg_3 w ∧
 Vg_1 w ∧
 Vg_0 w ∧
 Vg_2 w ∧
 Vg_2 w ∧
 Vg_2 w ∧
 Vg_2 w ∧
 Vg_2 w ∧
 Vg_2 w ∧
 Vg_2 w ∧
 Vg_2 w ∧
 Vg_2 w ∧
 Vg_2 w ∧
 Vg_2 w ∧
 Vg_0 w ∧
 Vg_0 w ∧
 Vg_2 w ∧
 Vg_2 w ∧
 Vg_2 w ∧
 Vg_2 w ∧
 Vg_2 w ∧
 Vg_2 w ∧
 Vg_2 w ∧
 Vg_2 w ∧
 Vg_2 w ∧
 Vg_2 w ∧
 Vg_2 w ∧
 Vg_2 w ∧
 Vg_2 w ∧
 Vg_2 w ∧
 Vg_2 w ∧
 Vg_2 w ∧
 Vg_2 w ∧
 Vg_2 w ∧
 Vg_2 w ∧
 Vg_2 w ∧
 Vg_2 w ∧
 Vg_2 w ∧
 Vg_2 w ∧
 Vg_2 w ∧
 Vg_2 w ∧
 Vg_2 w ∧
 Vg_2 w ∧
 Vg_2 w ∧
 Vg_2 w ∧
 Vg_2 w ∧
 Vg_2 w ∧
 Vg_1 w ∧
 ∀ v7:Vc.OV,v7.1=Value.iface 183 (.agg #[.int .i64 1,.int .i64 1,.string ⟨(([119,105,110,100]:List UInt8)).toArray⟩,.int .i64 10,.int .i64 0,.int .i64 15,.slice none 0 0]) →
 Vg_0 w ∧
 Vg_0 w ∧
 ∀ v8:Vc.OV,v8.1=Value.iface 183 (.agg #[.int .i64 1,.int .i64 1,.string ⟨(([119,105,110,100]:List UInt8)).toArray⟩,.int .i64 10,.int .i64 0,.int .i64 15,.slice none 0 0]) →
 Vg_0 w ∧
 Vg_0 w ∧
 ∀ v9:Vc.OV,v9.1=Value.iface 183 (.agg #[.int .i64 1,.int .i64 1,.string ⟨(([119,105,110,100]:List UInt8)).toArray⟩,.int .i64 10,.int .i64 0,.int .i64 15,.slice none 0 0]) →
 Vg_0 w ∧
 Vg_0 w ∧
 Vg_0 w ∧
 Vg_0 w ∧
 (∀ (β:Nat→Nat) (w':World),Below w.heap.size w w'→((w.heap.size≤β 270∧w'.heap[β 270]? = some (.cells #[.string ⟨(([119,105,110,100]:List UInt8)).toArray⟩,.int .i64 0,.int .i64 10] 61))∧Vc.RowOk w.heap.size (β 266) (β 267) (β 268) (β 269) (([.string ⟨(([119,105,110,100]:List UInt8)).toArray⟩,.int .i64 6,.int .i64 20]:List Value)) 3 61 w'∧True)→Calls Tryz.prog 154 #[Vc.ownV (β 266) (β 267) (β 268) (β 269),.int .i64 0,.slice (some ⟨β 270,0,none⟩) 1 1] w' (Vc.Give (β 266) (β 267) (([.string ⟨(([119,105,110,100]:List UInt8)).toArray⟩,.int .i64 0,.int .i64 10,.string ⟨(([119,105,110,100]:List UInt8)).toArray⟩,.int .i64 6,.int .i64 20]:List Value)) 3 61 w')) ∧
 Vg_3 w ∧
 Vg_1 w ∧
 Vg_0 w ∧
 Vg_0 w ∧
 Vg_0 w ∧
 Vg_0 w ∧
 Vg_1 w ∧
 ∀ v10:Vc.OV,v10.1=Value.iface 183 (.agg #[.int .i64 1,.int .i64 0,.string ⟨(([98]:List UInt8)).toArray⟩,.int .i64 0,.int .i64 5,.int .i64 0,.slice none 0 0]) →
 Vg_0 w ∧
 Vg_0 w ∧
 ∀ v11:Vc.OV,v11.1=Value.iface 183 (.agg #[.int .i64 1,.int .i64 0,.string ⟨(([98]:List UInt8)).toArray⟩,.int .i64 0,.int .i64 5,.int .i64 0,.slice none 0 0]) →
 Vg_0 w ∧
 Vg_0 w ∧
 Vg_0 w ∧
 Vg_0 w ∧
 Vg_0 w ∧
 Vg_0 w ∧
 Vg_0 w ∧
 Vg_0 w ∧
 Vg_0 w ∧
 Vg_0 w ∧
 ∀ v12:Vc.OV,v12.1=Value.iface 183 (.agg #[.int .i64 1,.int .i64 0,.string ⟨(([97]:List UInt8)).toArray⟩,.int .i64 0,.int .i64 5,.int .i64 0,.slice none 0 0]) →
 Vg_0 w ∧
 Vg_0 w ∧
 ∀ v13:Vc.OV,v13.1=Value.iface 183 (.agg #[.int .i64 1,.int .i64 0,.string ⟨(([98]:List UInt8)).toArray⟩,.int .i64 0,.int .i64 5,.int .i64 0,.slice none 0 0]) →
 Vg_1 w ∧
 Vg_1 w ∧
 Vg_1 w ∧
 Vg_1 w ∧
 Vg_1 w ∧
 Vg_1 w ∧
 Vg_1 w ∧
 Vg_1 w ∧
 Vg_0 w ∧
 Vg_0 w ∧
 Vg_0 w ∧
 Vg_0 w ∧
 Vg_2 w ∧
 Vg_2 w ∧
 Vg_2 w ∧
 Vg_2 w ∧
 Vg_2 w ∧
 Vg_2 w ∧
 Vg_2 w ∧
 Vg_2 w ∧
 Vg_2 w ∧
 Vg_1 w ∧
 ∀ v14:Vc.OV,v14.1=Value.iface 183 (.agg #[.int .i64 1,.int .i64 0,.string ⟨(([98]:List UInt8)).toArray⟩,.int .i64 0,.int .i64 5,.int .i64 0,.slice none 0 0]) →
 Vg_2 w ∧
 Vg_2 w ∧
 Vg_2 w ∧
 Vg_2 w ∧
 Vg_2 w ∧
 Vg_2 w ∧
 Vg_2 w ∧
 Vg_2 w ∧
 Vg_2 w ∧
 Vg_2 w ∧
 Vg_0 w ∧
 Vg_0 w ∧
 Vg_0 w ∧
 Vg_0 w ∧
 Vg_1 w ∧
 ∀ v15:Vc.OV,v15.1=Value.iface 183 (.agg #[.int .i64 1,.int .i64 0,.string ⟨(([97]:List UInt8)).toArray⟩,.int .i64 0,.int .i64 5,.int .i64 0,.slice none 0 0]) →
 ∀ v16:Vc.OV,v16.1=Value.iface 176 (.agg #[v15.1]) →
 ∀ v17:Vc.OV,v17.1=Value.iface 180 (.agg #[v14.1,v16.1]) →
 Vg_0 w ∧
 Vg_0 w ∧
 ∀ v18:Vc.OV,v18.1=Value.iface 183 (.agg #[.int .i64 1,.int .i64 0,.string ⟨(([98]:List UInt8)).toArray⟩,.int .i64 0,.int .i64 5,.int .i64 0,.slice none 0 0]) →
 Vg_0 w ∧
 Vg_0 w ∧
 ∀ v19:Vc.OV,v19.1=Value.iface 183 (.agg #[.int .i64 1,.int .i64 0,.string ⟨(([97]:List UInt8)).toArray⟩,.int .i64 0,.int .i64 5,.int .i64 0,.slice none 0 0]) →
 ∀ v20:Vc.OV,v20.1=Value.iface 176 (.agg #[v19.1]) →
 ∀ v21:Vc.OV,v21.1=Value.iface 180 (.agg #[v18.1,v20.1]) →
 Vg_0 w ∧
 Vg_0 w ∧
 Vg_0 w ∧
 Vg_0 w ∧
 Vg_0 w ∧
 Vg_0 w ∧
 Vg_0 w ∧
 Vg_0 w ∧
 Vg_0 w ∧
 Vg_0 w ∧
 ∀ v22:Vc.OV,v22.1=Value.iface 183 (.agg #[.int .i64 1,.int .i64 0,.string ⟨(([97]:List UInt8)).toArray⟩,.int .i64 0,.int .i64 5,.int .i64 0,.slice none 0 0]) →
 Vg_0 w ∧
 Vg_0 w ∧
 ∀ v23:Vc.OV,v23.1=Value.iface 183 (.agg #[.int .i64 1,.int .i64 0,.string ⟨(([98]:List UInt8)).toArray⟩,.int .i64 0,.int .i64 5,.int .i64 0,.slice none 0 0]) →
 Vg_0 w ∧
 Vg_0 w ∧
 ∀ v24:Vc.OV,v24.1=Value.iface 183 (.agg #[.int .i64 1,.int .i64 0,.string ⟨(([97]:List UInt8)).toArray⟩,.int .i64 0,.int .i64 5,.int .i64 0,.slice none 0 0]) →
 ∀ v25:Vc.OV,v25.1=Value.iface 176 (.agg #[v24.1]) →
 ∀ v26:Vc.OV,v26.1=Value.iface 180 (.agg #[v23.1,v25.1]) →
 Vg_1 w ∧
 Vg_1 w ∧
 Vg_1 w ∧
 Vg_1 w ∧
 Vg_1 w ∧
 Vg_1 w ∧
 Vg_1 w ∧
 Vg_1 w ∧
 Vg_1 w ∧
 Vg_1 w ∧
 Vg_1 w ∧
 Vg_1 w ∧
 Vg_1 w ∧
 Vg_1 w ∧
 Vg_0 w ∧
 Vg_0 w ∧
 Vg_0 w ∧
 Vg_0 w ∧
 Vg_0 w ∧
 Vg_0 w ∧
 Vg_0 w ∧
 Vg_0 w ∧
 Vg_0 w ∧
 Vg_0 w ∧
 ∀ v27:Vc.OV,v27.1=Value.iface 183 (.agg #[.int .i64 1,.int .i64 0,.string ⟨(([97]:List UInt8)).toArray⟩,.int .i64 0,.int .i64 5,.int .i64 0,.slice none 0 0]) →
 Vg_0 w ∧
 Vg_0 w ∧
 Vg_0 w ∧
 Vg_0 w ∧
 Vg_2 w ∧
 Vg_2 w ∧
 Vg_2 w ∧
 Vg_2 w ∧
 Vg_2 w ∧
 Vg_2 w ∧
 Vg_1 w ∧
 Vg_2 w ∧
 Vg_2 w ∧
 Vg_2 w ∧
 Vg_2 w ∧
 Vg_2 w ∧
 Vg_2 w ∧
 Vg_2 w ∧
 Vg_2 w ∧
 Vg_2 w ∧
 ∀ v28:Vc.OV,v28.1=Value.iface 183 (.agg #[.int .i64 1,.int .i64 0,.string ⟨(([119,105,110,100]:List UInt8)).toArray⟩,.int .i64 0,.int .i64 0,.int .i64 15,.slice none 0 0]) →
 Vg_2 w ∧
 Vg_2 w ∧
 Vg_2 w ∧
 Vg_2 w ∧
 Vg_2 w ∧
 Vg_2 w ∧
 Vg_2 w ∧
 Vg_2 w ∧
 Vg_2 w ∧
 Vg_2 w ∧
 Vg_0 w ∧
 Vg_0 w ∧
 Vg_0 w ∧
 Vg_0 w ∧
 Vg_1 w ∧
 ∀ v29:Vc.OV,v29.1=Value.iface 183 (.agg #[.int .i64 1,.int .i64 0,.string ⟨(([114,97,105,110]:List UInt8)).toArray⟩,.int .i64 0,.int .i64 5,.int .i64 0,.slice none 0 0]) →
 ∀ v30:Vc.OV,v30.1=Value.iface 176 (.agg #[v29.1]) →
 ∀ v31:Vc.OV,v31.1=Value.iface 180 (.agg #[v28.1,v30.1]) →
 Vg_0 w ∧
 Vg_0 w ∧
 ∀ v32:Vc.OV,v32.1=Value.iface 183 (.agg #[.int .i64 1,.int .i64 0,.string ⟨(([119,105,110,100]:List UInt8)).toArray⟩,.int .i64 0,.int .i64 0,.int .i64 15,.slice none 0 0]) →
 Vg_0 w ∧
 Vg_0 w ∧
 ∀ v33:Vc.OV,v33.1=Value.iface 183 (.agg #[.int .i64 1,.int .i64 0,.string ⟨(([114,97,105,110]:List UInt8)).toArray⟩,.int .i64 0,.int .i64 5,.int .i64 0,.slice none 0 0]) →
 ∀ v34:Vc.OV,v34.1=Value.iface 176 (.agg #[v33.1]) →
 ∀ v35:Vc.OV,v35.1=Value.iface 180 (.agg #[v32.1,v34.1]) →
 Vg_0 w ∧
 Vg_0 w ∧
 ∀ v36:Vc.OV,v36.1=Value.iface 183 (.agg #[.int .i64 1,.int .i64 0,.string ⟨(([119,105,110,100]:List UInt8)).toArray⟩,.int .i64 0,.int .i64 0,.int .i64 15,.slice none 0 0]) →
 Vg_0 w ∧
 Vg_0 w ∧
 ∀ v37:Vc.OV,v37.1=Value.iface 183 (.agg #[.int .i64 1,.int .i64 0,.string ⟨(([114,97,105,110]:List UInt8)).toArray⟩,.int .i64 0,.int .i64 5,.int .i64 0,.slice none 0 0]) →
 ∀ v38:Vc.OV,v38.1=Value.iface 176 (.agg #[v37.1]) →
 ∀ v39:Vc.OV,v39.1=Value.iface 180 (.agg #[v36.1,v38.1]) →
 Vg_1 w ∧
 (.bool true:Value)=v):Calls Tryz.prog 16 #[] w (Vc.Ret v w) :=
 Vc.zez (zz cuI_z zhfa) cuG_z globs cuL_z zifa 200 Tryz.func16 (b:=((Tryz.f16.body).getD .skip)) (by kernel_rfl) [] ⟨0,0,0,4,0,0,0⟩ [.glo 0 0,.glo 1 1,.glo 2 2,.glo 3 3] (Vc.envOf [] [] [] [(0,0),(1,0),(2,0),(3,0)]) (by kernel_rfl) (Vc.zp (by kernel_rfl) rfl (Vc.zp (by kernel_rfl) rfl (Vc.zp (by kernel_rfl) rfl (Vc.zp (by kernel_rfl) rfl Vc.zg)))) (by kernel_rfl) ((congrFun (zjfa w v) _).trans (by kernel_rfl)) h
end Go.Proofs.YtdjgnbkclcjiiaaGreatDoor
