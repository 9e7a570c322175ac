import Derived.Test.YtkjmhcejdiglfacGreatDoorG0
set_option linter.unusedVariables false
set_option maxRecDepth 100000
namespace Go.Proofs.YtkjmhcejdiglfacGreatDoor
open Go Go.RowKit
def cuI_z:List Nat := [3,6,7,8,9,10,11,13,14,15,16,17,18,19,20,22,23,24,25,26,27,28,29,30,31,32,33,34,35,36,37,38,39,40,41,42,43,44,45,46,47,48,49,50,51,52,53,54,55,56,57,58,59,60,61,62,63,64,66,67,68,69,70,71,72,73,74,75,76,77,78,79,80,81,82,83,84,85,86,87,88,89,90,91,92,93,94,95,96,97,98,99,102,103,104,105,106,107,108,109,110,111,112,113,115,116,117,118,119,120,121,122,123,124,125,126,127,128,129,130,131,132,133,134,135,136,137,138,139,140,141,142,143,144,145,146,147,148,149,150,151,153,154,155,156,157,159,160,161]
theorem ztfa:Vc.okCalls Tryz.prog cuI_z=true:=by kernel_rfl
def cuG_z:List (Nat × Vc.LH) := [(700000000000000065,.inva [[(12,3),(13,49),(13,46),(13,53),(0,6),(0,4),(0,0),(0,0),(0,0),(0,0)],[(12,1),(13,50),(0,4),(0,2),(0,0),(0,0),(0,0),(0,0)],[(12,1),(13,51),(0,6),(0,2),(0,0),(0,0),(0,0),(0,0)],[(12,2),(13,49),(13,48),(0,20),(0,2),(0,0),(0,0),(0,0),(0,0)],[(12,4),(13,50),(13,48),(13,48),(13,48),(0,4000),(0,2),(0,0),(0,0),(0,0),(0,0)],[(12,1),(13,49),(0,2),(0,2),(0,0),(0,0),(0,0),(0,0)],[(12,3),(13,48),(13,46),(13,53),(0,2),(0,4),(0,0),(0,0),(0,0),(0,0)],[(12,1),(13,48),(0,0),(0,2),(0,0),(0,0),(0,0),(0,0)],[(12,2),(13,53),(13,48),(0,100),(0,2),(0,0),(0,0),(0,0),(0,0)],[(12,2),(13,51),(13,53),(0,70),(0,2),(0,0),(0,0),(0,0),(0,0)]] [] [] []),(700000000000000012,.inva [[(10,85899345920),(10,103079215104),(10,17179869184),(10,34359738368),(0,21474836480),(0,51539607552),(0,0)]] [] [] []),(700000000000000021,.inva [[(12,1),(13,101),(10,4),(10,8581344656),(10,8598524528),(10,8589934592),(10,17179869184),(10,4294967296),(10,17179869184),(10,17179869184),(10,8589934592),(10,8589934592),(0,8589934592),(0,17179869184)]] [] [] []),(700000000000000114,.inva [[(12,3),(13,111),(13,110),(13,101),(1,0)],[(12,4),(13,116),(13,97),(13,110),(13,107),(1,0)],[(12,3),(13,108),(13,111),(13,119),(1,0)],[(12,1),(13,101),(1,0)]] [] [] []),(300000000000000158,.inv [] [1] []),(300000000000000152,.inv [] [2] []),(300000000000000101,.inv [] [3] []),(300000000000000100,.inv [] [4] [])]
def i6(n:Int):Vc.At := .int .i64 (.lit n)
def c1(a:Vc.At):Vc.SV := .cv (.one a)
def cl(a b:Nat):Vc.SV := .cv (.one (.loc a b))
def bt:Vc.At := .bool (.lit true)
def bf:Vc.At := .bool (.lit false)
def tx0:List UInt8 := [118,101,104,105,99,108,101,32,111,110,101,59,10,108,101,116,32,116,97,110,107,32,61,32,49,48,32,116,59,10,115,116,97,103,101,32,108,111,119,32,123,32,100,114,121,32,61,32,51,32,116,59,32,112,114,111,112,32,61,32,116,97,110,107,32,46,46,32,116,97,110,107,32,43,32,50,48,48,48,32,107,103,59,32,125,10,101,110,103,105,110,101,32,101,32,105,110,32,108,111,119,32,123,32,99,111,117,110,116,32,61,32,50,59,32,116,104,114,117,115,116,32,61,32,49,32,77,78,32,43,45,32,49,32,107,78,59,32,102,108,111,119,32,61,32,49,32,116,47,115,32,46,46,32,50,32,116,47,115,59,32,108,101,97,115,116,32,61,32,48,46,53,59,32,115,116,97,114,116,32,61,32,50,32,115,59,32,115,116,111,112,32,61,32,49,32,115,59,32,125,10,100,114,97,103,32,123,32,48,32,109,47,115,32,58,32,49,32,109,32,42,32,109,59,32,49,32,107,109,47,115,32,58,32,50,32,109,42,109,32,46,46,32,51,32,109,42,109,59,32,125,10,108,105,109,105,116,115,32,123,32,97,120,105,97,108,32,61,32,53,48,32,109,47,115,47,115,59,32,98,101,110,100,105,110,103,32,61,32,51,53,32,107,80,97,59,32,125,10,112,97,121,108,111,97,100,32,61,32,49,32,116,59,10]
def b0:List Vc.At := [.str [108,101,116],.mfn 80 [(253,0)] [],bf,.str [115,116,97,103,101],.mfn 81 [(253,0)] [],bf,.str [101,110,103,105,110,101],.mfn 82 [(253,0)] [],bf,.str [100,114,97,103],.mfn 83 [(253,0)] [],bt,.str [108,105,109,105,116,115],.mfn 84 [(253,0)] [],bt,.str [112,97,121,108,111,97,100],.mfn 85 [(253,0)] [],bt]
def b1:List Vc.At := [.str [108,101,116],bt,.str [115,116,97,103,101],bt,.str [101,110,103,105,110,101],bt,.str [100,114,97,103],bt,.str [108,105,109,105,116,115],bt]
def b2:List Vc.At := [.str [101],i6 2,i6 4290672328,i6 4299262264,i6 4294967296,i6 8589934592,i6 2147483648,i6 8589934592,i6 8589934592,i6 4294967296,i6 4294967296]
def b3:List Vc.At := [.str [111,110,101],.own 681,i6 4294967296,i6 4294967296,.own 2063,i6 214748364,i6 150323855360000]
def b4:List Vc.At := [.str [108,111,119],i6 12884901888,i6 12884901888,i6 42949672960,i6 51539607552,.own 1487]
def b5:List Vc.At := [i6 1,i6 0,i6 7,.str [118,101,104,105,99,108,101],i6 0,i6 0,i6 0,i6 0,i6 0,i6 0]
def b6:List Vc.At := [i6 1,i6 252,i6 258,.str [108,105,109,105,116,115],i6 0,i6 0,i6 0,i6 0,i6 0,i6 0]
def b7:List Vc.At := [i6 1,i6 86,i6 92,.str [101,110,103,105,110,101],i6 0,i6 0,i6 0,i6 0,i6 0,i6 0]
def b8:List Vc.At := [i6 1,i6 30,i6 35,.str [115,116,97,103,101],i6 0,i6 0,i6 0,i6 0,i6 0,i6 0]
def b9:List Vc.At := [i6 1,i6 201,i6 205,.str [100,114,97,103],i6 0,i6 0,i6 0,i6 0,i6 0,i6 0]
def b10:List Vc.At := [i6 1,i6 17,i6 21,.str [116,97,110,107],i6 0,i6 0,i6 0,i6 0,i6 0,i6 0]
def b11:List Vc.At := [i6 1,i6 36,i6 39,.str [108,111,119],i6 0,i6 0,i6 0,i6 0,i6 0,i6 0]
def b12:List Vc.At := [i6 1,i6 13,i6 16,.str [108,101,116],i6 0,i6 0,i6 0,i6 0,i6 0,i6 0]
def b13:List Vc.At := [i6 1,i6 8,i6 11,.str [111,110,101],i6 0,i6 0,i6 0,i6 0,i6 0,i6 0]
def b14:List Vc.At := [i6 3,i6 259,i6 260,.str [123],i6 0,i6 0,i6 0,i6 0,i6 0,i6 0]
def b15:List Vc.At := [i6 3,i6 206,i6 207,.str [123],i6 0,i6 0,i6 0,i6 0,i6 0,i6 0]
def b16:List Vc.At := [i6 1,i6 93,i6 94,.str [101],i6 0,i6 0,i6 0,i6 0,i6 0,i6 0]
def b17:List Vc.At := [i6 3,i6 11,i6 12,.str [59],i6 0,i6 0,i6 0,i6 0,i6 0,i6 0]
def b18:List Vc.At := [.str [101,110,103,105,110,101],.mfn 82 [(253,0)] [],bf]
def b19:List Vc.At := [.str [108,105,109,105,116,115],.mfn 84 [(253,0)] [],bt]
def b20:List Vc.At := [i6 2,i6 0,i6 3,.str [],i6 3,i6 2,i6 0,i6 0,i6 0,i6 0]
def b21:List Vc.At := [.str [115,116,97,103,101],.mfn 81 [(253,0)] [],bf]
def b22:List Vc.At := [i6 0,i6 4294,i6 4295,i6 4294967296,i6 8589,i6 12885]
def b23:List Vc.At := [.str [49,46,53,32,107,109,32,47,32,109,115]]
def b24:List Vc.At := [.str [100,114,97,103],.mfn 83 [(253,0)] [],bt]
def b25:List Vc.At := [.str [108,101,116],.mfn 80 [(253,0)] [],bf]
def b26:List Vc.At := [.str [118,101,104,105,99,108,101]]
def b27:List Vc.At := [i6 1500,i6 1,i6 1,i6 (-1),i6 0]
def b28:List Vc.At := [i6 10737418240,i6 25769803776]
def b29:List Vc.At := [i6 17179869184,i6 21474836480]
def b30:List Vc.At := [i6 8589934592,i6 17179869184]
def b31:List Vc.At := [i6 1,i6 3,i6 0,i6 0,i6 0]
def b32:List Vc.At := [i6 0,i6 0,i6 0,i6 0,i6 0]
def l0:List (Nat × Vc.SV) := [(49,c1 ((.fn 87 [(256,0)]))),(48,c1 ((.lsl 278 0 6 6))),(47,c1 bt),(46,c1 (i6 1)),(45,cl 253 1),(44,cl 253 1),(43,cl 253 0),(42,cl 253 0),(3,c1 ((.omap 279))),(41,c1 ((.omap 279))),(2,cl 278 0),(40,.cv (.agg b0)),(39,.cv (.agg [.str [112,97,121,108,111,97,100],.mfn 85 [(253,0)] [],bt])),(38,c1 ((.mfn 85 [(253,0)] []))),(37,cl 253 0),(36,.cv (.agg b19)),(35,c1 ((.mfn 84 [(253,0)] []))),(34,cl 253 0),(33,.cv (.agg b24)),(32,c1 ((.mfn 83 [(253,0)] []))),(31,cl 253 0),(30,.cv (.agg b18)),(29,c1 ((.mfn 82 [(253,0)] []))),(28,cl 253 0),(27,.cv (.agg b21)),(26,c1 ((.mfn 81 [(253,0)] []))),(25,cl 253 0),(24,.cv (.agg b25)),(23,c1 ((.mfn 80 [(253,0)] []))),(22,cl 253 0),(21,.tup []),(20,c1 ((.lsl 271 0 1 1))),(19,cl 253 0),(18,cl 253 12),(17,cl 253 12),(16,cl 253 0),(15,c1 ((.str [111,110,101]))),(14,.cv (.agg b13)),(13,cl 253 0),(12,cl 253 0),(11,.tup []),(10,c1 ((.lsl 257 0 1 1))),(9,cl 253 0),(1,cl 256 0),(0,cl 253 0)]
def l1:List (Nat × Vc.SV) := [(3,c1 (i6 0)),(2,c1 (i6 0)),(1,cl 107 0),(20,c1 (i6 0)),(19,c1 (i6 0)),(18,.cv (.agg b27)),(16,.tup [.agg b27,.one (i6 0),.one (i6 0)]),(17,.tup [.agg b27,.one (i6 0),.one (i6 0)]),(0,c1 bf)]
def l2:List (Nat × Vc.SV):=(6,c1 (i6 20))::(5,c1 (i6 4))::(4,cl 239 0)::(25,c1 (i6 20))::(24,c1 (i6 4))::(23,.cv (.agg b32))::(21,.tup [.agg b32,.one (i6 4),.one (i6 20)])::(22,.tup [.agg b32,.one (i6 4),.one (i6 20)])::l1
def l3:List (Nat × Vc.SV):=(8,c1 (i6 0))::(7,c1 (i6 1431655765))::(30,c1 (i6 0))::(29,c1 (i6 1431655765))::(26,.tup [.one (i6 1431655765),.one (i6 0)])::(28,.tup [.one (i6 1431655765),.one (i6 0)])::(27,.cv (.agg b31))::l2
def l4:List (Nat × Vc.SV):=(11,c1 (i6 0))::(10,c1 (i6 0))::(9,cl 2501 0)::(35,c1 (i6 0))::(34,c1 (i6 0))::(33,.cv (.agg b3))::(31,.tup [.agg b3,.one (i6 0),.one (i6 0)])::(32,.tup [.agg b3,.one (i6 0),.one (i6 0)])::l3
def l5:List (Nat × Vc.SV):=(13,c1 (i6 0))::(12,cl 2552 0)::(40,c1 (i6 0))::(39,.cv (.agg b28))::(36,.tup [.agg b28,.one (i6 0)])::(38,.tup [.agg b28,.one (i6 0)])::(37,.cv (.agg b3))::l4
def l6:List (Nat × Vc.SV):=(15,c1 (i6 0))::(14,cl 2611 0)::(46,c1 (i6 0))::(45,.cv (.agg b29))::(41,.tup [.agg b29,.one (i6 0)])::(44,.tup [.agg b29,.one (i6 0)])::(43,.cv (.agg [i6 47244640256,i6 47244640256]))::(42,.cv (.agg b3))::l5
def l7:Vc.Mem := [(107,b27,49),(106,b27,49),(9,b27,49),(8,[.str [49,46,53,32,107,109,32,47,32,109,115],i6 0,i6 11,i6 11,.str [],i6 0,i6 0,i6 0,i6 0,i6 0,i6 0,.nilm,.str [],.nils,i6 0,i6 0,.nils,i6 0,i6 0],84),(7,b20,80),(6,b20,80),(5,[i6 0],3),(4,b23,9),(3,[i6 0],34),(2,[i6 0],3),(1,b27,49),(0,b23,9)]
def l8:Vc.Mem:=(239,b32,49)::(109,b32,49)::(108,[.str [50,32,116,32,43,32,51,32,115]],9)::l7
def l9:Vc.Mem:=(243,[i6 0,i6 0,i6 0],97)::(242,b31,49)::(241,b31,49)::(240,b31,49)::l8
def l10:Vc.Mem:=(248,b5,80)::(247,b5,80)::(246,[i6 0],3)::(245,[.str tx0],9)::(244,[.str [],.nils,i6 0,i6 0,.nils,i6 0,i6 0],28)::l9
def l11:Vc.Mem:=(2501,b3,28)::(255,[i6 0],34)::(254,[i6 0],3)::(253,[.str tx0,i6 0,i6 314,i6 314,.str [],i6 0,i6 0,i6 0,i6 0,i6 0,i6 0,.omap 249,.str [111,110,101],.own 681,i6 4294967296,i6 4294967296,.own 2063,i6 214748364,i6 150323855360000],84)::(248,b5,80)::(247,b5,80)::(246,[i6 0],3)::(245,[.str tx0],9)::(244,b3,28)::l9
def l12:Vc.Mem:=(2552,b28,25)::(2551,b30,25)::(2550,b30,25)::(2549,[i6 0,i6 0],25)::(2548,[i6 4294967296,i6 8589934592],25)::(2547,b2,42)::(2546,b30,25)::(2545,b30,25)::(2544,b4,40)::(2504,b3,28)::(2503,b28,25)::(2502,b3,28)::l11
def l13:Vc.Mem:=(2611,b29,25)::(2610,b29,25)::(2609,[i6 4294967296,i6 4294967296],25)::(2608,[i6 12884901888,i6 17179869184],25)::(2607,[i6 4294967296,i6 4294967296],25)::(2606,[i6 12884901888,i6 17179869184],25)::(2605,[i6 12884901888,i6 12884901888],25)::(2604,[i6 0,i6 4294967296],25)::(2603,[i6 12884901888,i6 12884901888],25)::(2602,b4,40)::(2599,[i6 0],3)::(2598,b3,28)::(2597,b29,25)::(2596,[i6 42949672960,i6 51539607552],25)::(2556,b3,28)::(2555,b29,25)::(2554,[i6 47244640256,i6 47244640256],25)::(2553,b3,28)::l12
def l14:Vc.OMem := [(249,[.ats [.str [116,97,110,107],i6 10,i6 1,i6 0,i6 0,i6 1]],0,2097163)]
def l15:Vc.OMem:=(279,[.ats [.str [108,101,116],bt,.str [115,116,97,103,101],bt,.str [101,110,103,105,110,101],bt]],0,2097154)::l14
def l16:Vc.KnL := [.glo 0 0,.glo 1 4,.glo 2 5,.glo 3 6,.glo 4 3,.glo 5 7,.glo 6 8,.glo 7 9,.glo 8 10,.glo 9 11,.glo 10 12,.glo 11 13,.glo 12 14,.glo 13 19,.glo 14 20]
def cuE_z0:Vc.Summary:=⟨166,82,[cl 253 0],⟨(80,c1 ((.mfn 82 [(253,0)] [])))::(79,cl 688 1)::(78,.cv (.agg b7))::(77,cl 253 0)::(76,c1 ((.str [101,110,103,105,110,101])))::(75,cl 688 0)::(74,c1 ((.omap 279)))::(73,.tup [])::(72,c1 (i6 86))::(71,cl 253 2)::(70,cl 253 1)::(69,cl 253 0)::(68,cl 253 0)::(67,c1 bt)::(66,.und)::(65,.und)::(64,.und)::(63,.und)::(62,.und)::(61,c1 bt)::(60,c1 bt)::(59,c1 bf)::(58,cl 688 2)::(5,cl 688 0)::(57,.cv (.agg b18))::(56,cl 278 6)::(55,c1 (i6 2))::(52,c1 bf)::(52,c1 bf)::(51,c1 (i6 2))::(4,c1 (i6 2))::(50,c1 (i6 2))::(49,c1 ((.fn 87 [(256,0)])))::(48,c1 ((.lsl 278 0 6 6)))::(47,c1 bt)::(47,c1 bt)::(46,c1 (i6 1))::(45,cl 253 1)::(44,cl 253 1)::(43,cl 253 0)::(42,cl 253 0)::(81,.tup [])::(80,c1 ((.mfn 81 [(253,0)] [])))::(79,cl 369 1)::(78,.cv (.agg b8))::(77,cl 253 0)::(76,c1 ((.str [115,116,97,103,101])))::(75,cl 369 0)::(74,c1 ((.omap 279)))::(73,.tup [])::(72,c1 (i6 30))::(71,cl 253 2)::(70,cl 253 1)::(69,cl 253 0)::(68,cl 253 0)::(67,c1 bt)::(66,.und)::(65,.und)::(64,.und)::(63,.und)::(62,.und)::(61,c1 bt)::(60,c1 bt)::(59,c1 bf)::(58,cl 369 2)::(5,cl 369 0)::(57,.cv (.agg b21))::(56,cl 278 3)::(55,c1 (i6 1))::(52,c1 bf)::(51,c1 (i6 1))::(4,c1 (i6 1))::(50,c1 (i6 1))::l0,116,(694,b16,80)::(693,b16,80)::(692,[i6 93],3)::(691,[.str tx0],9)::(690,b7,80)::(689,b7,80)::(688,b18,134)::(687,b18,134)::(686,b21,134)::(685,b25,134)::(375,b11,80)::(374,b11,80)::(373,[i6 36],3)::(372,[.str tx0],9)::(371,b8,80)::(370,b8,80)::(369,b21,134)::(368,b21,134)::(367,b25,134)::(290,b10,80)::(289,b10,80)::(288,[i6 17],3)::(287,[.str tx0],9)::(286,b12,80)::(285,b12,80)::(284,b25,134)::(283,b25,134)::(278,b0,135)::(277,b12,80)::(276,b12,80)::(275,[i6 13],3)::(274,[.str tx0],9)::(273,b17,80)::(272,b17,80)::(271,[.str [59]],9)::(270,b17,80)::(269,b17,80)::(268,[i6 11],3)::(267,[.str tx0],9)::(266,b13,80)::(265,b13,80)::(264,b13,80)::(263,b13,80)::(262,b13,80)::(261,[i6 8],3)::(260,[.str tx0],9)::(259,b5,80)::(258,b5,80)::(257,b26,9)::(256,[.loc 253 0],78)::(255,[i6 0],34)::(254,[i6 0],3)::(253,[.str tx0,i6 1,i6 93,i6 94,.str [101],i6 0,i6 0,i6 0,i6 0,i6 0,i6 0,.omap 249,.str [111,110,101],.own 681,i6 0,i6 0,.nils,i6 0,i6 0],84)::l10,⟨0,0,1,15,695,0,0⟩,(681,[.ats [.str [108,111,119],i6 12884901888,i6 12884901888,i6 42949672960,i6 51539607552,.nils]],6,40)::l15,[],[],.ifc 0 113 (.agg [i6 4,i6 20])::l16,[]⟩,[.call 114 [c1 ((.str [101]))] [] [] (c1 bf),.call 114 [c1 ((.str [108,111,119]))] [] [] (c1 bf),.glo 0 gl0 121,.glo 0 gl0 121,.glo 0 gl0 121,.glo 0 gl0 121,.glo 5 gl5 97,.glo 6 gl6 97,.glo 3 gl3 97,.glo 7 gl7 97,.glo 7 gl7 97,.glo 0 gl0 121,.glo 0 gl0 121,.glo 0 gl0 121,.glo 0 gl0 121,.glo 0 gl0 121,.glo 0 gl0 121,.glo 0 gl0 121,.glo 0 gl0 121,.call 65 [c1 ((.str [50]))] [] [] (.tup [.agg [i6 2,i6 1,i6 0,i6 0,i6 0],.one (i6 0)]),.glo 0 gl0 121,.glo 0 gl0 121,.glo 0 gl0 121,.glo 0 gl0 121,.glo 0 gl0 121,.glo 0 gl0 121,.glo 12 gl12 187,.glo 3 gl3 97,.glo 0 gl0 121,.glo 0 gl0 121,.glo 0 gl0 121,.glo 0 gl0 121,.glo 0 gl0 121,.glo 0 gl0 121,.glo 0 gl0 121,.glo 0 gl0 121,.call 65 [c1 ((.str [49]))] [] [] (.tup [.agg [i6 1,i6 1,i6 0,i6 0,i6 0],.one (i6 0)]),.glo 12 gl12 187,.glo 0 gl0 121,.glo 0 gl0 121,.call 65 [c1 ((.str [49]))] [] [] (.tup [.agg [i6 1,i6 1,i6 0,i6 0,i6 0],.one (i6 0)]),.glo 12 gl12 187,.glo 0 gl0 121,.glo 0 gl0 121,.glo 0 gl0 121,.glo 0 gl0 121,.glo 0 gl0 121,.glo 0 gl0 121,.glo 0 gl0 121,.glo 0 gl0 121,.glo 0 gl0 121,.glo 0 gl0 121,.glo 0 gl0 121,.glo 0 gl0 121,.glo 0 gl0 121,.glo 0 gl0 121,.call 65 [c1 ((.str [49]))] [] [] (.tup [.agg [i6 1,i6 1,i6 0,i6 0,i6 0],.one (i6 0)]),.glo 12 gl12 187,.glo 0 gl0 121,.glo 0 gl0 121,.glo 0 gl0 121,.glo 0 gl0 121,.glo 0 gl0 121,.glo 0 gl0 121,.glo 0 gl0 121,.glo 0 gl0 121,.glo 0 gl0 121,.glo 0 gl0 121,.glo 0 gl0 121,.glo 0 gl0 121,.glo 12 gl12 187,.glo 0 gl0 121,.glo 0 gl0 121,.glo 0 gl0 121,.call 65 [c1 ((.str [50]))] [] [] (.tup [.agg [i6 2,i6 1,i6 0,i6 0,i6 0],.one (i6 0)]),.glo 12 gl12 187,.glo 0 gl0 121,.glo 0 gl0 121,.glo 0 gl0 121,.glo 0 gl0 121,.glo 0 gl0 121,.glo 0 gl0 121,.glo 0 gl0 121,.glo 0 gl0 121,.glo 0 gl0 121,.glo 0 gl0 121,.glo 0 gl0 121,.glo 0 gl0 121,.glo 12 gl12 187,.glo 0 gl0 121,.glo 0 gl0 121,.glo 0 gl0 121,.glo 0 gl0 121,.glo 0 gl0 121,.glo 0 gl0 121,.glo 0 gl0 121,.glo 0 gl0 121,.glo 0 gl0 121,.glo 0 gl0 121,.glo 0 gl0 121,.glo 0 gl0 121,.glo 0 gl0 121,.glo 0 gl0 121,.call 65 [c1 ((.str [48,46,53]))] [] [] (.tup [.agg [i6 1,i6 2,i6 0,i6 0,i6 0],.one (i6 0)]),.glo 0 gl0 121,.glo 0 gl0 121,.glo 0 gl0 121,.glo 0 gl0 121,.glo 0 gl0 121,.glo 0 gl0 121,.glo 12 gl12 187,.glo 0 gl0 121,.glo 0 gl0 121,.glo 0 gl0 121,.glo 0 gl0 121,.glo 0 gl0 121,.glo 0 gl0 121,.glo 0 gl0 121,.glo 0 gl0 121,.call 65 [c1 ((.str [50]))] [] [] (.tup [.agg [i6 2,i6 1,i6 0,i6 0,i6 0],.one (i6 0)]),.glo 12 gl12 187,.glo 0 gl0 121,.glo 0 gl0 121,.glo 0 gl0 121,.glo 0 gl0 121,.glo 0 gl0 121,.glo 0 gl0 121,.glo 0 gl0 121,.glo 0 gl0 121,.glo 0 gl0 121,.glo 0 gl0 121,.glo 0 gl0 121,.glo 0 gl0 121,.glo 0 gl0 121,.glo 0 gl0 121,.call 65 [c1 ((.str [49]))] [] [] (.tup [.agg [i6 1,i6 1,i6 0,i6 0,i6 0],.one (i6 0)]),.glo 12 gl12 187,.glo 0 gl0 121,.glo 0 gl0 121,.glo 0 gl0 121,.glo 0 gl0 121,.glo 0 gl0 121,.glo 0 gl0 121,.glo 0 gl0 121,.glo 0 gl0 121,.glo 0 gl0 121,.glo 0 gl0 121,.glo 0 gl0 121],.tup [],⟨(80,c1 ((.mfn 82 [(253,0)] [])))::(79,cl 688 1)::(78,.cv (.agg b7))::(77,cl 253 0)::(76,c1 ((.str [101,110,103,105,110,101])))::(75,cl 688 0)::(74,c1 ((.omap 279)))::(73,.tup [])::(72,c1 (i6 86))::(71,cl 253 2)::(70,cl 253 1)::(69,cl 253 0)::(68,cl 253 0)::(67,c1 bt)::(66,.und)::(65,.und)::(64,.und)::(63,.und)::(62,.und)::(61,c1 bt)::(60,c1 bt)::(59,c1 bf)::(58,cl 688 2)::(5,cl 688 0)::(57,.cv (.agg b18))::(56,cl 278 6)::(55,c1 (i6 2))::(52,c1 bf)::(52,c1 bf)::(51,c1 (i6 2))::(4,c1 (i6 2))::(50,c1 (i6 2))::(49,c1 ((.fn 87 [(256,0)])))::(48,c1 ((.lsl 278 0 6 6)))::(47,c1 bt)::(47,c1 bt)::(46,c1 (i6 1))::(45,cl 253 1)::(44,cl 253 1)::(43,cl 253 0)::(42,cl 253 0)::(81,.tup [])::(80,c1 ((.mfn 81 [(253,0)] [])))::(79,cl 369 1)::(78,.cv (.agg b8))::(77,cl 253 0)::(76,c1 ((.str [115,116,97,103,101])))::(75,cl 369 0)::(74,c1 ((.omap 279)))::(73,.tup [])::(72,c1 (i6 30))::(71,cl 253 2)::(70,cl 253 1)::(69,cl 253 0)::(68,cl 253 0)::(67,c1 bt)::(66,.und)::(65,.und)::(64,.und)::(63,.und)::(62,.und)::(61,c1 bt)::(60,c1 bt)::(59,c1 bf)::(58,cl 369 2)::(5,cl 369 0)::(57,.cv (.agg b21))::(56,cl 278 3)::(55,c1 (i6 1))::(52,c1 bf)::(51,c1 (i6 1))::(4,c1 (i6 1))::(50,c1 (i6 1))::l0,116,(694,b16,80)::(693,b16,80)::(692,[i6 93],3)::(691,[.str tx0],9)::(690,b7,80)::(689,b7,80)::(688,b18,134)::(687,b18,134)::(686,b21,134)::(685,b25,134)::(375,b11,80)::(374,b11,80)::(373,[i6 36],3)::(372,[.str tx0],9)::(371,b8,80)::(370,b8,80)::(369,b21,134)::(368,b21,134)::(367,b25,134)::(290,b10,80)::(289,b10,80)::(288,[i6 17],3)::(287,[.str tx0],9)::(286,b12,80)::(285,b12,80)::(284,b25,134)::(283,b25,134)::(278,b0,135)::(277,b12,80)::(276,b12,80)::(275,[i6 13],3)::(274,[.str tx0],9)::(273,b17,80)::(272,b17,80)::(271,[.str [59]],9)::(270,b17,80)::(269,b17,80)::(268,[i6 11],3)::(267,[.str tx0],9)::(266,b13,80)::(265,b13,80)::(264,b13,80)::(263,b13,80)::(262,b13,80)::(261,[i6 8],3)::(260,[.str tx0],9)::(259,b5,80)::(258,b5,80)::(257,b26,9)::(256,[.loc 253 0],78)::(255,[i6 0],34)::(254,[i6 0],3)::(253,[.str tx0,i6 1,i6 201,i6 205,.str [100,114,97,103],i6 0,i6 0,i6 0,i6 0,i6 0,i6 0,.omap 249,.str [111,110,101],.own 681,i6 0,i6 0,.nils,i6 0,i6 0],84)::l10,⟨0,0,1,15,1491,0,0⟩,(1487,[.ats b2],11,42)::(681,[.ats b4],6,40)::l15,[],[],.ifc 0 113 (.agg [i6 4,i6 20])::l16,[]⟩⟩
def cuE_z1:Vc.Summary:=⟨166,84,[cl 253 0],⟨(80,c1 ((.mfn 84 [(253,0)] [])))::(79,cl 2078 1)::(78,.cv (.agg b6))::(77,cl 253 0)::(76,c1 ((.str [108,105,109,105,116,115])))::(75,cl 2078 0)::(74,c1 ((.omap 279)))::(73,.tup [])::(72,c1 (i6 252))::(71,cl 253 2)::(70,cl 253 1)::(69,cl 253 0)::(68,cl 253 0)::(67,c1 bt)::(66,c1 bt)::(65,c1 bf)::(64,c1 ((.str [108,105,109,105,116,115])))::(63,cl 2078 0)::(62,c1 ((.omap 279)))::(61,c1 bf)::(60,c1 bf)::(59,c1 bt)::(58,cl 2078 2)::(5,cl 2078 0)::(57,.cv (.agg b19))::(56,cl 278 12)::(55,c1 (i6 4))::(52,c1 bf)::(52,c1 bf)::(51,c1 (i6 4))::(4,c1 (i6 4))::(50,c1 (i6 4))::(49,c1 ((.fn 87 [(256,0)])))::(48,c1 ((.lsl 278 0 6 6)))::(47,c1 bt)::(47,c1 bt)::(46,c1 (i6 1))::(45,cl 253 1)::(44,cl 253 1)::(43,cl 253 0)::(42,cl 253 0)::(81,.tup [])::(80,c1 ((.mfn 83 [(253,0)] [])))::(79,cl 1495 1)::(78,.cv (.agg b9))::(77,cl 253 0)::(76,c1 ((.str [100,114,97,103])))::(75,cl 1495 0)::(74,c1 ((.omap 279)))::(73,.tup [])::(72,c1 (i6 201))::(71,cl 253 2)::(70,cl 253 1)::(69,cl 253 0)::(68,cl 253 0)::(67,c1 bt)::(66,c1 bt)::(65,c1 bf)::(64,c1 ((.str [100,114,97,103])))::(63,cl 1495 0)::(62,c1 ((.omap 279)))::(61,c1 bf)::(60,c1 bf)::(59,c1 bt)::(58,cl 1495 2)::(5,cl 1495 0)::(57,.cv (.agg b24))::(56,cl 278 9)::(55,c1 (i6 3))::(52,c1 bf)::(51,c1 (i6 3))::(4,c1 (i6 3))::(50,c1 (i6 3))::l0,116,(2084,b14,80)::(2083,b14,80)::(2082,[i6 259],3)::(2081,[.str tx0],9)::(2080,b6,80)::(2079,b6,80)::(2078,b19,134)::(2077,b19,134)::(2076,b24,134)::(2075,b18,134)::(2074,b21,134)::(2073,b25,134)::(1501,b15,80)::(1500,b15,80)::(1499,[i6 206],3)::(1498,[.str tx0],9)::(1497,b9,80)::(1496,b9,80)::(1495,b24,134)::(1494,b24,134)::(1493,b18,134)::(1492,b21,134)::(1491,b25,134)::(694,b16,80)::(693,b16,80)::(692,[i6 93],3)::(691,[.str tx0],9)::(690,b7,80)::(689,b7,80)::(688,b18,134)::(687,b18,134)::(686,b21,134)::(685,b25,134)::(375,b11,80)::(374,b11,80)::(373,[i6 36],3)::(372,[.str tx0],9)::(371,b8,80)::(370,b8,80)::(369,b21,134)::(368,b21,134)::(367,b25,134)::(290,b10,80)::(289,b10,80)::(288,[i6 17],3)::(287,[.str tx0],9)::(286,b12,80)::(285,b12,80)::(284,b25,134)::(283,b25,134)::(278,b0,135)::(277,b12,80)::(276,b12,80)::(275,[i6 13],3)::(274,[.str tx0],9)::(273,b17,80)::(272,b17,80)::(271,[.str [59]],9)::(270,b17,80)::(269,b17,80)::(268,[i6 11],3)::(267,[.str tx0],9)::(266,b13,80)::(265,b13,80)::(264,b13,80)::(263,b13,80)::(262,b13,80)::(261,[i6 8],3)::(260,[.str tx0],9)::(259,b5,80)::(258,b5,80)::(257,b26,9)::(256,[.loc 253 0],78)::(255,[i6 0],34)::(254,[i6 0],3)::(253,[.str tx0,i6 3,i6 259,i6 260,.str [123],i6 0,i6 0,i6 0,i6 0,i6 0,i6 0,.omap 249,.str [111,110,101],.own 681,i6 0,i6 0,.own 2063,i6 0,i6 0],84)::l10,⟨0,0,1,15,2085,0,0⟩,(2063,[.ats b22],3,170)::(1487,[.ats b2],11,42)::(681,[.ats b4],6,40)::(279,[.ats b1],0,2097154)::l14,[],[],.ifc 0 113 (.agg [i6 4,i6 20])::l16,[]⟩,[.glo 0 gl0 121,.glo 0 gl0 121,.glo 0 gl0 121,.glo 0 gl0 121,.glo 0 gl0 121,.glo 0 gl0 121,.glo 0 gl0 121,.glo 0 gl0 121,.call 65 [c1 ((.str [53,48]))] [] [] (.tup [.agg [i6 50,i6 1,i6 0,i6 0,i6 0],.one (i6 0)]),.glo 10 gl10 97,.glo 12 gl12 187,.glo 0 gl0 121,.glo 0 gl0 121,.glo 0 gl0 121,.glo 0 gl0 121,.glo 0 gl0 121,.glo 0 gl0 121,.glo 0 gl0 121,.glo 0 gl0 121,.glo 0 gl0 121,.glo 0 gl0 121,.glo 0 gl0 121,.glo 0 gl0 121,.glo 12 gl12 187,.glo 0 gl0 121,.glo 0 gl0 121,.glo 0 gl0 121,.glo 0 gl0 121,.glo 0 gl0 121,.glo 0 gl0 121,.glo 0 gl0 121,.glo 0 gl0 121,.glo 0 gl0 121,.glo 0 gl0 121,.glo 0 gl0 121,.glo 0 gl0 121,.glo 12 gl12 187,.glo 0 gl0 121,.glo 0 gl0 121,.glo 0 gl0 121,.glo 0 gl0 121,.glo 0 gl0 121,.glo 0 gl0 121,.glo 0 gl0 121,.glo 0 gl0 121,.glo 0 gl0 121,.glo 0 gl0 121,.glo 0 gl0 121,.glo 0 gl0 121,.glo 0 gl0 121,.glo 0 gl0 121,.call 65 [c1 ((.str [51,53]))] [] [] (.tup [.agg [i6 35,i6 1,i6 0,i6 0,i6 0],.one (i6 0)]),.glo 11 gl11 97,.glo 12 gl12 187,.glo 0 gl0 121,.glo 0 gl0 121,.glo 0 gl0 121,.glo 0 gl0 121,.glo 0 gl0 121,.glo 0 gl0 121,.glo 0 gl0 121,.glo 0 gl0 121,.glo 0 gl0 121,.glo 0 gl0 121,.glo 0 gl0 121],.tup [],⟨(80,c1 ((.mfn 84 [(253,0)] [])))::(79,cl 2078 1)::(78,.cv (.agg b6))::(77,cl 253 0)::(76,c1 ((.str [108,105,109,105,116,115])))::(75,cl 2078 0)::(74,c1 ((.omap 279)))::(73,.tup [])::(72,c1 (i6 252))::(71,cl 253 2)::(70,cl 253 1)::(69,cl 253 0)::(68,cl 253 0)::(67,c1 bt)::(66,c1 bt)::(65,c1 bf)::(64,c1 ((.str [108,105,109,105,116,115])))::(63,cl 2078 0)::(62,c1 ((.omap 279)))::(61,c1 bf)::(60,c1 bf)::(59,c1 bt)::(58,cl 2078 2)::(5,cl 2078 0)::(57,.cv (.agg b19))::(56,cl 278 12)::(55,c1 (i6 4))::(52,c1 bf)::(52,c1 bf)::(51,c1 (i6 4))::(4,c1 (i6 4))::(50,c1 (i6 4))::(49,c1 ((.fn 87 [(256,0)])))::(48,c1 ((.lsl 278 0 6 6)))::(47,c1 bt)::(47,c1 bt)::(46,c1 (i6 1))::(45,cl 253 1)::(44,cl 253 1)::(43,cl 253 0)::(42,cl 253 0)::(81,.tup [])::(80,c1 ((.mfn 83 [(253,0)] [])))::(79,cl 1495 1)::(78,.cv (.agg b9))::(77,cl 253 0)::(76,c1 ((.str [100,114,97,103])))::(75,cl 1495 0)::(74,c1 ((.omap 279)))::(73,.tup [])::(72,c1 (i6 201))::(71,cl 253 2)::(70,cl 253 1)::(69,cl 253 0)::(68,cl 253 0)::(67,c1 bt)::(66,c1 bt)::(65,c1 bf)::(64,c1 ((.str [100,114,97,103])))::(63,cl 1495 0)::(62,c1 ((.omap 279)))::(61,c1 bf)::(60,c1 bf)::(59,c1 bt)::(58,cl 1495 2)::(5,cl 1495 0)::(57,.cv (.agg b24))::(56,cl 278 9)::(55,c1 (i6 3))::(52,c1 bf)::(51,c1 (i6 3))::(4,c1 (i6 3))::(50,c1 (i6 3))::l0,116,(2084,b14,80)::(2083,b14,80)::(2082,[i6 259],3)::(2081,[.str tx0],9)::(2080,b6,80)::(2079,b6,80)::(2078,b19,134)::(2077,b19,134)::(2076,b24,134)::(2075,b18,134)::(2074,b21,134)::(2073,b25,134)::(1501,b15,80)::(1500,b15,80)::(1499,[i6 206],3)::(1498,[.str tx0],9)::(1497,b9,80)::(1496,b9,80)::(1495,b24,134)::(1494,b24,134)::(1493,b18,134)::(1492,b21,134)::(1491,b25,134)::(694,b16,80)::(693,b16,80)::(692,[i6 93],3)::(691,[.str tx0],9)::(690,b7,80)::(689,b7,80)::(688,b18,134)::(687,b18,134)::(686,b21,134)::(685,b25,134)::(375,b11,80)::(374,b11,80)::(373,[i6 36],3)::(372,[.str tx0],9)::(371,b8,80)::(370,b8,80)::(369,b21,134)::(368,b21,134)::(367,b25,134)::(290,b10,80)::(289,b10,80)::(288,[i6 17],3)::(287,[.str tx0],9)::(286,b12,80)::(285,b12,80)::(284,b25,134)::(283,b25,134)::(278,b0,135)::(277,b12,80)::(276,b12,80)::(275,[i6 13],3)::(274,[.str tx0],9)::(273,b17,80)::(272,b17,80)::(271,[.str [59]],9)::(270,b17,80)::(269,b17,80)::(268,[i6 11],3)::(267,[.str tx0],9)::(266,b13,80)::(265,b13,80)::(264,b13,80)::(263,b13,80)::(262,b13,80)::(261,[i6 8],3)::(260,[.str tx0],9)::(259,b5,80)::(258,b5,80)::(257,b26,9)::(256,[.loc 253 0],78)::(255,[i6 0],34)::(254,[i6 0],3)::(253,[.str tx0,i6 1,i6 299,i6 306,.str [112,97,121,108,111,97,100],i6 0,i6 0,i6 0,i6 0,i6 0,i6 0,.omap 249,.str [111,110,101],.own 681,i6 0,i6 0,.own 2063,i6 214748364,i6 150323855360000],84)::l10,⟨0,0,1,15,2362,0,0⟩,(2063,[.ats b22],3,170)::(1487,[.ats b2],11,42)::(681,[.ats b4],6,40)::(279,[.ats b1],0,2097154)::l14,[],[],.ifc 0 113 (.agg [i6 4,i6 20])::l16,[]⟩⟩
def cuL_z:List Vc.Summary := [cuE_z0,cuE_z1]
theorem zmea(A:Vc.Alg (Vc.Env→Prop))(yl:Vc.Yl (Vc.Env→Prop))(K:Vc.Ex→Vc.St→Vc.Env→Prop)(K':Vc.SV→Vc.St→Vc.Env→Prop):Vc.inlX A (⟨Tryz.prog,fcalls,fext,cuI_z,cuG_z,globs,cuL_z,[]⟩:Vc.Cfg) (Vc.exec A (⟨Tryz.prog,fcalls,fext,cuI_z,cuG_z,globs,cuL_z,[]⟩:Vc.Cfg) cuE_z0.n) yl K cuE_z0.f cuE_z0.args cuE_z0.s K'=Vc.askRun A cuE_z0.asks (K' cuE_z0.v cuE_z0.s'):=by kernel_rfl
theorem znea(A:Vc.Alg (Vc.Env→Prop))(yl:Vc.Yl (Vc.Env→Prop))(K:Vc.Ex→Vc.St→Vc.Env→Prop)(K':Vc.SV→Vc.St→Vc.Env→Prop):Vc.inlX A (⟨Tryz.prog,fcalls,fext,cuI_z,cuG_z,globs,cuL_z,[]⟩:Vc.Cfg) (Vc.exec A (⟨Tryz.prog,fcalls,fext,cuI_z,cuG_z,globs,cuL_z,[]⟩:Vc.Cfg) cuE_z1.n) yl K cuE_z1.f cuE_z1.args cuE_z1.s K'=Vc.askRun A cuE_z1.asks (K' cuE_z1.v cuE_z1.s'):=by kernel_rfl
theorem zufa:∀ e∈cuL_z,∀ (A:Vc.Alg (Vc.Env→Prop)) (yl:Vc.Yl (Vc.Env→Prop)) (K:Vc.Ex→Vc.St→Vc.Env→Prop) (K':Vc.SV→Vc.St→Vc.Env→Prop),Vc.inlX A (⟨Tryz.prog,fcalls,fext,cuI_z,cuG_z,globs,cuL_z,[]⟩:Vc.Cfg) (Vc.exec A (⟨Tryz.prog,fcalls,fext,cuI_z,cuG_z,globs,cuL_z,[]⟩:Vc.Cfg) e.n) yl K e.f e.args e.s K'=Vc.askRun A e.asks (K' e.v e.s') :=
 List.forall_mem_cons.2 ⟨zmea,List.forall_mem_cons.2 ⟨znea,fun e he=>absurd he (by simp)⟩⟩
def cuS_z0:Vc.St:=⟨[],92,[],⟨0,0,0,15,0,0,0⟩,[],[],[],l16,[]⟩
def cuS_z1:Vc.St:=⟨[(0,c1 bf)],92,[],⟨0,0,0,15,0,0,0⟩,[],[],[],l16,[]⟩
def cuW_z0{R:Type}(A:Vc.Alg R)(r:R):R:=r
theorem zoea{R:Type}(A:Vc.Alg R)(yl:Vc.Yl R)(K:Vc.Ex→Vc.St→R):Vc.exec A (⟨Tryz.prog,fcalls,fext,cuI_z,cuG_z,globs,cuL_z,[]⟩:Vc.Cfg) 199 none yl (Vc.seqHd ((Tryz.f5.body).getD .skip)) cuS_z0 K=cuW_z0 A (K .normal cuS_z1):=by kernel_rfl
theorem zpea{R:Type}(A:Vc.Alg R)(yl:Vc.Yl R)(K:Vc.Ex→Vc.St→R):Vc.exec A (⟨Tryz.prog,fcalls,fext,cuI_z,cuG_z,globs,cuL_z,[]⟩:Vc.Cfg) 200 none yl ((Tryz.f5.body).getD .skip) cuS_z0 K=cuW_z0 A (Vc.exec A (⟨Tryz.prog,fcalls,fext,cuI_z,cuG_z,globs,cuL_z,[]⟩:Vc.Cfg) 199 none yl (Vc.seqTl ((Tryz.f5.body).getD .skip)) cuS_z1 K):=Vc.zbd (by kernel_rfl) (zoea A yl)
def cuS_z2:Vc.St:=⟨l1,92,l7,⟨0,0,0,15,108,0,0⟩,[],[],[],l16,[]⟩
def cuW_z1{R:Type}(A:Vc.Alg R)(r:R):R:=A.call 65 [c1 ((.str [49,46,53]))] [] [] [] (.tup [.agg [i6 3,i6 2,i6 0,i6 0,i6 0],.one (i6 0)])<|A.glo 12 gl12 187<|A.glo 0 gl0 121<|A.glo 0 gl0 121<|A.glo 0 gl0 121<|A.glo 0 gl0 121<|A.glo 0 gl0 121<|A.glo 0 gl0 121<|A.glo 0 gl0 121<|A.glo 0 gl0 121<|A.glo 0 gl0 121<|A.glo 0 gl0 121<|A.glo 0 gl0 121<|A.glo 0 gl0 121<|A.glo 12 gl12 187<|r
theorem zqea{R:Type}(A:Vc.Alg R)(yl:Vc.Yl R)(K:Vc.Ex→Vc.St→R):Vc.exec A (⟨Tryz.prog,fcalls,fext,cuI_z,cuG_z,globs,cuL_z,[]⟩:Vc.Cfg) 198 none yl (Vc.seqHd (Vc.seqTl ((Tryz.f5.body).getD .skip))) cuS_z1 K=cuW_z1 A (K .normal cuS_z2):=by kernel_rfl
theorem zrea{R:Type}(A:Vc.Alg R)(yl:Vc.Yl R)(K:Vc.Ex→Vc.St→R):Vc.exec A (⟨Tryz.prog,fcalls,fext,cuI_z,cuG_z,globs,cuL_z,[]⟩:Vc.Cfg) 199 none yl (Vc.seqTl ((Tryz.f5.body).getD .skip)) cuS_z1 K=cuW_z1 A (Vc.exec A (⟨Tryz.prog,fcalls,fext,cuI_z,cuG_z,globs,cuL_z,[]⟩:Vc.Cfg) 198 none yl (Vc.seqTl (Vc.seqTl ((Tryz.f5.body).getD .skip))) cuS_z2 K):=Vc.zbd (by kernel_rfl) (zqea A yl)
def cuS_z3:Vc.St:=⟨l2,92,l8,⟨0,0,1,15,240,0,0⟩,[],[],[],.ifc 0 113 (.agg [i6 4,i6 20])::l16,[]⟩
def cuW_z2{R:Type}(A:Vc.Alg R)(r:R):R:=A.call 65 [c1 ((.str [50]))] [] [] [] (.tup [.agg [i6 2,i6 1,i6 0,i6 0,i6 0],.one (i6 0)])<|A.glo 12 gl12 187<|A.glo 0 gl0 121<|A.glo 0 gl0 121<|A.glo 0 gl0 121<|A.glo 0 gl0 121<|A.glo 0 gl0 121<|A.glo 0 gl0 121<|A.glo 0 gl0 121<|A.glo 0 gl0 121<|A.glo 0 gl0 121<|A.call 65 [c1 ((.str [51]))] [] [] [] (.tup [.agg [i6 3,i6 1,i6 0,i6 0,i6 0],.one (i6 0)])<|A.glo 12 gl12 187<|A.ifc 0 113 (.agg [i6 4,i6 20])<|r
theorem zsea{R:Type}(A:Vc.Alg R)(yl:Vc.Yl R)(K:Vc.Ex→Vc.St→R):Vc.exec A (⟨Tryz.prog,fcalls,fext,cuI_z,cuG_z,globs,cuL_z,[]⟩:Vc.Cfg) 197 none yl (Vc.seqHd (Vc.seqTl (Vc.seqTl ((Tryz.f5.body).getD .skip)))) cuS_z2 K=cuW_z2 A (K .normal cuS_z3):=by kernel_rfl
theorem ztea{R:Type}(A:Vc.Alg R)(yl:Vc.Yl R)(K:Vc.Ex→Vc.St→R):Vc.exec A (⟨Tryz.prog,fcalls,fext,cuI_z,cuG_z,globs,cuL_z,[]⟩:Vc.Cfg) 198 none yl (Vc.seqTl (Vc.seqTl ((Tryz.f5.body).getD .skip))) cuS_z2 K=cuW_z2 A (Vc.exec A (⟨Tryz.prog,fcalls,fext,cuI_z,cuG_z,globs,cuL_z,[]⟩:Vc.Cfg) 197 none yl (Vc.seqTl (Vc.seqTl (Vc.seqTl ((Tryz.f5.body).getD .skip)))) cuS_z3 K):=Vc.zbd (by kernel_rfl) (zsea A yl)
def cuS_z4:Vc.St:=⟨l3,92,l9,⟨0,0,1,15,244,0,0⟩,[],[],[],.ifc 0 113 (.agg [i6 4,i6 20])::l16,[]⟩
def cuW_z3{R:Type}(A:Vc.Alg R)(r:R):R:=r
theorem zuea{R:Type}(A:Vc.Alg R)(yl:Vc.Yl R)(K:Vc.Ex→Vc.St→R):Vc.exec A (⟨Tryz.prog,fcalls,fext,cuI_z,cuG_z,globs,cuL_z,[]⟩:Vc.Cfg) 196 none yl (Vc.seqHd (Vc.seqTl (Vc.seqTl (Vc.seqTl ((Tryz.f5.body).getD .skip))))) cuS_z3 K=cuW_z3 A (K .normal cuS_z4):=by kernel_rfl
theorem zvea{R:Type}(A:Vc.Alg R)(yl:Vc.Yl R)(K:Vc.Ex→Vc.St→R):Vc.exec A (⟨Tryz.prog,fcalls,fext,cuI_z,cuG_z,globs,cuL_z,[]⟩:Vc.Cfg) 197 none yl (Vc.seqTl (Vc.seqTl (Vc.seqTl ((Tryz.f5.body).getD .skip)))) cuS_z3 K=cuW_z3 A (Vc.exec A (⟨Tryz.prog,fcalls,fext,cuI_z,cuG_z,globs,cuL_z,[]⟩:Vc.Cfg) 196 none yl (Vc.seqTl (Vc.seqTl (Vc.seqTl (Vc.seqTl ((Tryz.f5.body).getD .skip))))) cuS_z4 K):=Vc.zbd (by kernel_rfl) (zuea A yl)
def cuS_z5:Vc.St:=⟨l4,92,l11,⟨0,0,1,15,2502,0,0⟩,(2063,[.ats b22],3,170)::(1487,[.ats b2],11,42)::(681,[.ats b4],6,40)::l14,[],[],.ifc 0 113 (.agg [i6 4,i6 20])::l16,[]⟩
def cuW_z4{R:Type}(A:Vc.Alg R)(r:R):R:=A.call 114 [c1 ((.str [111,110,101]))] [] [] [] (c1 bf)<|A.glo 0 gl0 121<|A.glo 0 gl0 121<|A.glo 0 gl0 121<|A.glo 0 gl0 121<|A.glo 0 gl0 121<|A.glo 0 gl0 121<|A.call 114 [c1 ((.str [116,97,110,107]))] [] [] [] (c1 bf)<|A.glo 0 gl0 121<|A.glo 0 gl0 121<|A.glo 0 gl0 121<|A.glo 0 gl0 121<|A.glo 0 gl0 121<|A.glo 0 gl0 121<|A.glo 0 gl0 121<|A.glo 0 gl0 121<|A.call 65 [c1 ((.str [49,48]))] [] [] [] (.tup [.agg [i6 10,i6 1,i6 0,i6 0,i6 0],.one (i6 0)])<|A.glo 12 gl12 187<|A.glo 0 gl0 121<|A.glo 0 gl0 121<|A.glo 0 gl0 121<|A.glo 0 gl0 121<|A.glo 0 gl0 121<|A.glo 0 gl0 121<|A.call 114 [c1 ((.str [108,111,119]))] [] [] [] (c1 bf)<|A.glo 0 gl0 121<|A.glo 0 gl0 121<|A.glo 0 gl0 121<|A.glo 0 gl0 121<|A.glo 0 gl0 121<|A.glo 0 gl0 121<|A.glo 0 gl0 121<|A.glo 0 gl0 121<|A.glo 0 gl0 121<|A.glo 0 gl0 121<|A.glo 0 gl0 121<|A.glo 0 gl0 121<|A.call 65 [c1 ((.str [51]))] [] [] [] (.tup [.agg [i6 3,i6 1,i6 0,i6 0,i6 0],.one (i6 0)])<|A.glo 4 gl4 97<|A.glo 12 gl12 187<|A.glo 0 gl0 121<|A.glo 0 gl0 121<|A.glo 0 gl0 121<|A.glo 0 gl0 121<|A.glo 0 gl0 121<|A.glo 0 gl0 121<|A.glo 0 gl0 121<|A.glo 0 gl0 121<|A.glo 0 gl0 121<|A.glo 0 gl0 121<|A.glo 0 gl0 121<|A.glo 0 gl0 121<|A.glo 0 gl0 121<|A.glo 0 gl0 121<|A.glo 4 gl4 97<|A.glo 12 gl12 187<|A.call 114 [c1 ((.str [116,97,110,107]))] [] [] [] (c1 bf)<|A.glo 0 gl0 121<|A.glo 0 gl0 121<|A.glo 0 gl0 121<|A.glo 12 gl12 187<|A.call 114 [c1 ((.str [116,97,110,107]))] [] [] [] (c1 bf)<|A.glo 0 gl0 121<|A.glo 0 gl0 121<|A.glo 0 gl0 121<|A.glo 0 gl0 121<|A.glo 0 gl0 121<|A.glo 0 gl0 121<|A.glo 0 gl0 121<|A.glo 0 gl0 121<|A.glo 0 gl0 121<|A.call 65 [c1 ((.str [50,48,48,48]))] [] [] [] (.tup [.agg [i6 2000,i6 1,i6 0,i6 0,i6 0],.one (i6 0)])<|A.glo 12 gl12 187<|A.glo 0 gl0 121<|A.glo 0 gl0 121<|A.glo 0 gl0 121<|A.glo 0 gl0 121<|A.glo 0 gl0 121<|A.glo 0 gl0 121<|A.glo 0 gl0 121<|A.glo 0 gl0 121<|A.glo 0 gl0 121<|A.glo 0 gl0 121<|A.glo 0 gl0 121<|A.call 114 [c1 ((.str [101]))] [] [] [] (c1 bf)<|A.call 114 [c1 ((.str [108,111,119]))] [] [] [] (c1 bf)<|A.glo 0 gl0 121<|A.glo 0 gl0 121<|A.glo 0 gl0 121<|A.glo 0 gl0 121<|A.glo 5 gl5 97<|A.glo 6 gl6 97<|A.glo 3 gl3 97<|A.glo 7 gl7 97<|A.glo 7 gl7 97<|A.glo 0 gl0 121<|A.glo 0 gl0 121<|A.glo 0 gl0 121<|A.glo 0 gl0 121<|A.glo 0 gl0 121<|A.glo 0 gl0 121<|A.glo 0 gl0 121<|A.glo 0 gl0 121<|A.call 65 [c1 ((.str [50]))] [] [] [] (.tup [.agg [i6 2,i6 1,i6 0,i6 0,i6 0],.one (i6 0)])<|A.glo 0 gl0 121<|A.glo 0 gl0 121<|A.glo 0 gl0 121<|A.glo 0 gl0 121<|A.glo 0 gl0 121<|A.glo 0 gl0 121<|A.glo 12 gl12 187<|A.glo 3 gl3 97<|A.glo 0 gl0 121<|A.glo 0 gl0 121<|A.glo 0 gl0 121<|A.glo 0 gl0 121<|A.glo 0 gl0 121<|A.glo 0 gl0 121<|A.glo 0 gl0 121<|A.glo 0 gl0 121<|A.call 65 [c1 ((.str [49]))] [] [] [] (.tup [.agg [i6 1,i6 1,i6 0,i6 0,i6 0],.one (i6 0)])<|A.glo 12 gl12 187<|A.glo 0 gl0 121<|A.glo 0 gl0 121<|A.call 65 [c1 ((.str [49]))] [] [] [] (.tup [.agg [i6 1,i6 1,i6 0,i6 0,i6 0],.one (i6 0)])<|A.glo 12 gl12 187<|A.glo 0 gl0 121<|A.glo 0 gl0 121<|A.glo 0 gl0 121<|A.glo 0 gl0 121<|A.glo 0 gl0 121<|A.glo 0 gl0 121<|A.glo 0 gl0 121<|A.glo 0 gl0 121<|A.glo 0 gl0 121<|A.glo 0 gl0 121<|A.glo 0 gl0 121<|A.glo 0 gl0 121<|A.glo 0 gl0 121<|A.glo 0 gl0 121<|A.call 65 [c1 ((.str [49]))] [] [] [] (.tup [.agg [i6 1,i6 1,i6 0,i6 0,i6 0],.one (i6 0)])<|A.glo 12 gl12 187<|A.glo 0 gl0 121<|A.glo 0 gl0 121<|A.glo 0 gl0 121<|A.glo 0 gl0 121<|A.glo 0 gl0 121<|A.glo 0 gl0 121<|A.glo 0 gl0 121<|A.glo 0 gl0 121<|A.glo 0 gl0 121<|A.glo 0 gl0 121<|A.glo 0 gl0 121<|A.glo 0 gl0 121<|A.glo 12 gl12 187<|A.glo 0 gl0 121<|A.glo 0 gl0 121<|A.glo 0 gl0 121<|A.call 65 [c1 ((.str [50]))] [] [] [] (.tup [.agg [i6 2,i6 1,i6 0,i6 0,i6 0],.one (i6 0)])<|A.glo 12 gl12 187<|A.glo 0 gl0 121<|A.glo 0 gl0 121<|A.glo 0 gl0 121<|A.glo 0 gl0 121<|A.glo 0 gl0 121<|A.glo 0 gl0 121<|A.glo 0 gl0 121<|A.glo 0 gl0 121<|A.glo 0 gl0 121<|A.glo 0 gl0 121<|A.glo 0 gl0 121<|A.glo 0 gl0 121<|A.glo 12 gl12 187<|A.glo 0 gl0 121<|A.glo 0 gl0 121<|A.glo 0 gl0 121<|A.glo 0 gl0 121<|A.glo 0 gl0 121<|A.glo 0 gl0 121<|A.glo 0 gl0 121<|A.glo 0 gl0 121<|A.glo 0 gl0 121<|A.glo 0 gl0 121<|A.glo 0 gl0 121<|A.glo 0 gl0 121<|A.glo 0 gl0 121<|A.glo 0 gl0 121<|A.call 65 [c1 ((.str [48,46,53]))] [] [] [] (.tup [.agg [i6 1,i6 2,i6 0,i6 0,i6 0],.one (i6 0)])<|A.glo 0 gl0 121<|A.glo 0 gl0 121<|A.glo 0 gl0 121<|A.glo 0 gl0 121<|A.glo 0 gl0 121<|A.glo 0 gl0 121<|A.glo 12 gl12 187<|A.glo 0 gl0 121<|A.glo 0 gl0 121<|A.glo 0 gl0 121<|A.glo 0 gl0 121<|A.glo 0 gl0 121<|A.glo 0 gl0 121<|A.glo 0 gl0 121<|A.glo 0 gl0 121<|A.call 65 [c1 ((.str [50]))] [] [] [] (.tup [.agg [i6 2,i6 1,i6 0,i6 0,i6 0],.one (i6 0)])<|A.glo 12 gl12 187<|A.glo 0 gl0 121<|A.glo 0 gl0 121<|A.glo 0 gl0 121<|A.glo 0 gl0 121<|A.glo 0 gl0 121<|A.glo 0 gl0 121<|A.glo 0 gl0 121<|A.glo 0 gl0 121<|A.glo 0 gl0 121<|A.glo 0 gl0 121<|A.glo 0 gl0 121<|A.glo 0 gl0 121<|A.glo 0 gl0 121<|A.glo 0 gl0 121<|A.call 65 [c1 ((.str [49]))] [] [] [] (.tup [.agg [i6 1,i6 1,i6 0,i6 0,i6 0],.one (i6 0)])<|A.glo 12 gl12 187<|A.glo 0 gl0 121<|A.glo 0 gl0 121<|A.glo 0 gl0 121<|A.glo 0 gl0 121<|A.glo 0 gl0 121<|A.glo 0 gl0 121<|A.glo 0 gl0 121<|A.glo 0 gl0 121<|A.glo 0 gl0 121<|A.glo 0 gl0 121<|A.glo 0 gl0 121<|A.glo 0 gl0 121<|A.glo 0 gl0 121<|A.glo 0 gl0 121<|A.glo 0 gl0 121<|A.call 65 [c1 ((.str [48]))] [] [] [] (.tup [.agg [i6 0,i6 1,i6 0,i6 0,i6 0],.one (i6 0)])<|A.glo 8 gl8 97<|A.glo 12 gl12 187<|A.glo 0 gl0 121<|A.glo 0 gl0 121<|A.glo 0 gl0 121<|A.glo 0 gl0 121<|A.glo 0 gl0 121<|A.glo 0 gl0 121<|A.glo 0 gl0 121<|A.glo 0 gl0 121<|A.glo 0 gl0 121<|A.glo 0 gl0 121<|A.glo 0 gl0 121<|A.glo 0 gl0 121<|A.glo 12 gl12 187<|A.glo 0 gl0 121<|A.glo 0 gl0 121<|A.glo 0 gl0 121<|A.glo 0 gl0 121<|A.glo 0 gl0 121<|A.glo 0 gl0 121<|A.glo 0 gl0 121<|A.call 65 [c1 ((.str [49]))] [] [] [] (.tup [.agg [i6 1,i6 1,i6 0,i6 0,i6 0],.one (i6 0)])<|A.glo 9 gl9 97<|A.glo 12 gl12 187<|A.glo 0 gl0 121<|A.glo 0 gl0 121<|A.glo 0 gl0 121<|A.glo 0 gl0 121<|A.glo 0 gl0 121<|A.glo 0 gl0 121<|A.glo 0 gl0 121<|A.glo 0 gl0 121<|A.glo 0 gl0 121<|A.glo 0 gl0 121<|A.glo 0 gl0 121<|A.glo 12 gl12 187<|A.glo 0 gl0 121<|A.glo 0 gl0 121<|A.glo 0 gl0 121<|A.glo 0 gl0 121<|A.glo 0 gl0 121<|A.glo 0 gl0 121<|A.call 65 [c1 ((.str [49]))] [] [] [] (.tup [.agg [i6 1,i6 1,i6 0,i6 0,i6 0],.one (i6 0)])<|A.glo 8 gl8 97<|A.glo 12 gl12 187<|A.glo 0 gl0 121<|A.glo 0 gl0 121<|A.glo 0 gl0 121<|A.glo 0 gl0 121<|A.glo 0 gl0 121<|A.glo 0 gl0 121<|A.glo 0 gl0 121<|A.glo 0 gl0 121<|A.glo 0 gl0 121<|A.glo 0 gl0 121<|A.glo 0 gl0 121<|A.glo 0 gl0 121<|A.glo 12 gl12 187<|A.glo 0 gl0 121<|A.glo 0 gl0 121<|A.glo 0 gl0 121<|A.glo 0 gl0 121<|A.glo 0 gl0 121<|A.glo 0 gl0 121<|A.glo 0 gl0 121<|A.call 65 [c1 ((.str [50]))] [] [] [] (.tup [.agg [i6 2,i6 1,i6 0,i6 0,i6 0],.one (i6 0)])<|A.glo 9 gl9 97<|A.glo 12 gl12 187<|A.glo 0 gl0 121<|A.glo 0 gl0 121<|A.glo 0 gl0 121<|A.glo 0 gl0 121<|A.glo 0 gl0 121<|A.glo 0 gl0 121<|A.glo 0 gl0 121<|A.glo 0 gl0 121<|A.glo 0 gl0 121<|A.glo 0 gl0 121<|A.glo 0 gl0 121<|A.glo 12 gl12 187<|A.glo 0 gl0 121<|A.glo 0 gl0 121<|A.glo 0 gl0 121<|A.call 65 [c1 ((.str [51]))] [] [] [] (.tup [.agg [i6 3,i6 1,i6 0,i6 0,i6 0],.one (i6 0)])<|A.glo 12 gl12 187<|A.glo 0 gl0 121<|A.glo 0 gl0 121<|A.glo 0 gl0 121<|A.glo 0 gl0 121<|A.glo 0 gl0 121<|A.glo 0 gl0 121<|A.glo 0 gl0 121<|A.glo 0 gl0 121<|A.glo 0 gl0 121<|A.glo 0 gl0 121<|A.glo 0 gl0 121<|A.glo 12 gl12 187<|A.glo 0 gl0 121<|A.glo 0 gl0 121<|A.glo 0 gl0 121<|A.glo 0 gl0 121<|A.glo 0 gl0 121<|A.glo 0 gl0 121<|A.glo 0 gl0 121<|A.glo 0 gl0 121<|A.glo 0 gl0 121<|A.glo 0 gl0 121<|A.glo 0 gl0 121<|A.glo 0 gl0 121<|A.glo 0 gl0 121<|A.glo 0 gl0 121<|A.glo 0 gl0 121<|A.glo 0 gl0 121<|A.glo 0 gl0 121<|A.glo 0 gl0 121<|A.glo 0 gl0 121<|A.glo 0 gl0 121<|A.glo 0 gl0 121<|A.glo 0 gl0 121<|A.glo 0 gl0 121<|A.call 65 [c1 ((.str [53,48]))] [] [] [] (.tup [.agg [i6 50,i6 1,i6 0,i6 0,i6 0],.one (i6 0)])<|A.glo 10 gl10 97<|A.glo 12 gl12 187<|A.glo 0 gl0 121<|A.glo 0 gl0 121<|A.glo 0 gl0 121<|A.glo 0 gl0 121<|A.glo 0 gl0 121<|A.glo 0 gl0 121<|A.glo 0 gl0 121<|A.glo 0 gl0 121<|A.glo 0 gl0 121<|A.glo 0 gl0 121<|A.glo 0 gl0 121<|A.glo 0 gl0 121<|A.glo 12 gl12 187<|A.glo 0 gl0 121<|A.glo 0 gl0 121<|A.glo 0 gl0 121<|A.glo 0 gl0 121<|A.glo 0 gl0 121<|A.glo 0 gl0 121<|A.glo 0 gl0 121<|A.glo 0 gl0 121<|A.glo 0 gl0 121<|A.glo 0 gl0 121<|A.glo 0 gl0 121<|A.glo 0 gl0 121<|A.glo 12 gl12 187<|A.glo 0 gl0 121<|A.glo 0 gl0 121<|A.glo 0 gl0 121<|A.glo 0 gl0 121<|A.glo 0 gl0 121<|A.glo 0 gl0 121<|A.glo 0 gl0 121<|A.glo 0 gl0 121<|A.glo 0 gl0 121<|A.glo 0 gl0 121<|A.glo 0 gl0 121<|A.glo 0 gl0 121<|A.glo 0 gl0 121<|A.glo 0 gl0 121<|A.call 65 [c1 ((.str [51,53]))] [] [] [] (.tup [.agg [i6 35,i6 1,i6 0,i6 0,i6 0],.one (i6 0)])<|A.glo 11 gl11 97<|A.glo 12 gl12 187<|A.glo 0 gl0 121<|A.glo 0 gl0 121<|A.glo 0 gl0 121<|A.glo 0 gl0 121<|A.glo 0 gl0 121<|A.glo 0 gl0 121<|A.glo 0 gl0 121<|A.glo 0 gl0 121<|A.glo 0 gl0 121<|A.glo 0 gl0 121<|A.glo 0 gl0 121<|A.glo 0 gl0 121<|A.glo 0 gl0 121<|A.glo 0 gl0 121<|A.glo 0 gl0 121<|A.glo 0 gl0 121<|A.glo 0 gl0 121<|A.glo 0 gl0 121<|A.glo 0 gl0 121<|A.call 65 [c1 ((.str [49]))] [] [] [] (.tup [.agg [i6 1,i6 1,i6 0,i6 0,i6 0],.one (i6 0)])<|A.glo 4 gl4 97<|A.glo 12 gl12 187<|A.glo 0 gl0 121<|A.glo 0 gl0 121<|A.glo 0 gl0 121<|A.glo 0 gl0 121<|A.glo 0 gl0 121<|A.glo 0 gl0 121<|A.call 114 [c1 ((.str [111,110,101]))] [] [] [] (c1 bf)<|A.call 114 [c1 ((.str [108,111,119]))] [] [] [] (c1 bf)<|A.call 114 [c1 ((.str [101]))] [] [] [] (c1 bf)<|r
theorem zwea{R:Type}(A:Vc.Alg R)(yl:Vc.Yl R)(K:Vc.Ex→Vc.St→R):Vc.exec A (⟨Tryz.prog,fcalls,fext,cuI_z,cuG_z,globs,cuL_z,[]⟩:Vc.Cfg) 195 none yl (Vc.seqHd (Vc.seqTl (Vc.seqTl (Vc.seqTl (Vc.seqTl ((Tryz.f5.body).getD .skip)))))) cuS_z4 K=cuW_z4 A (K .normal cuS_z5):=by kernel_rfl
theorem zxea{R:Type}(A:Vc.Alg R)(yl:Vc.Yl R)(K:Vc.Ex→Vc.St→R):Vc.exec A (⟨Tryz.prog,fcalls,fext,cuI_z,cuG_z,globs,cuL_z,[]⟩:Vc.Cfg) 196 none yl (Vc.seqTl (Vc.seqTl (Vc.seqTl (Vc.seqTl ((Tryz.f5.body).getD .skip))))) cuS_z4 K=cuW_z4 A (Vc.exec A (⟨Tryz.prog,fcalls,fext,cuI_z,cuG_z,globs,cuL_z,[]⟩:Vc.Cfg) 195 none yl (Vc.seqTl (Vc.seqTl (Vc.seqTl (Vc.seqTl (Vc.seqTl ((Tryz.f5.body).getD .skip)))))) cuS_z5 K):=Vc.zbd (by kernel_rfl) (zwea A yl)
def cuS_z6:Vc.St:=⟨l5,92,l12,⟨0,0,1,15,2553,0,0⟩,(2063,[.ats b22],3,170)::(1487,[.ats b2],11,42)::(681,[.ats b4],6,40)::l14,[],[],.ifc 0 113 (.agg [i6 4,i6 20])::l16,[]⟩
def cuW_z5{R:Type}(A:Vc.Alg R)(r:R):R:=A.call 114 [c1 ((.str [111,110,101]))] [] [] [] (c1 bf)<|A.call 114 [c1 ((.str [108,111,119]))] [] [] [] (c1 bf)<|A.call 114 [c1 ((.str [101]))] [] [] [] (c1 bf)<|A.call 21 [.cv (.agg [.str [101],i6 2,i6 4290672328,i6 4299262264,i6 4294967296,i6 8589934592,i6 2147483648,i6 8589934592,i6 8589934592,i6 4294967296,i6 4294967296])] [] [] [] (.cv (.agg [i6 4294967296,i6 8589934592]))<|A.call 12 [.cv (.agg [i6 42949672960,i6 51539607552]),.cv (.agg [i6 8589934592,i6 17179869184])] [] [] [] (.tup [.agg [i6 10737418240,i6 25769803776],.one (i6 0)])<|r
theorem zyea{R:Type}(A:Vc.Alg R)(yl:Vc.Yl R)(K:Vc.Ex→Vc.St→R):Vc.exec A (⟨Tryz.prog,fcalls,fext,cuI_z,cuG_z,globs,cuL_z,[]⟩:Vc.Cfg) 194 none yl (Vc.seqHd (Vc.seqTl (Vc.seqTl (Vc.seqTl (Vc.seqTl (Vc.seqTl ((Tryz.f5.body).getD .skip))))))) cuS_z5 K=cuW_z5 A (K .normal cuS_z6):=by kernel_rfl
theorem zzea{R:Type}(A:Vc.Alg R)(yl:Vc.Yl R)(K:Vc.Ex→Vc.St→R):Vc.exec A (⟨Tryz.prog,fcalls,fext,cuI_z,cuG_z,globs,cuL_z,[]⟩:Vc.Cfg) 195 none yl (Vc.seqTl (Vc.seqTl (Vc.seqTl (Vc.seqTl (Vc.seqTl ((Tryz.f5.body).getD .skip)))))) cuS_z5 K=cuW_z5 A (Vc.exec A (⟨Tryz.prog,fcalls,fext,cuI_z,cuG_z,globs,cuL_z,[]⟩:Vc.Cfg) 194 none yl (Vc.seqTl (Vc.seqTl (Vc.seqTl (Vc.seqTl (Vc.seqTl (Vc.seqTl ((Tryz.f5.body).getD .skip))))))) cuS_z6 K):=Vc.zbd (by kernel_rfl) (zyea A yl)
def cuS_z7:Vc.St:=⟨l6,92,l13,⟨0,0,1,15,2612,0,0⟩,(2063,[.ats b22],3,170)::(1487,[.ats b2],11,42)::(681,[.ats b4],6,40)::l14,[],[],.ifc 0 113 (.agg [i6 4,i6 20])::l16,[]⟩
def cuW_z6{R:Type}(A:Vc.Alg R)(r:R):R:=A.call 114 [c1 ((.str [111,110,101]))] [] [] [] (c1 bf)<|A.call 114 [c1 ((.str [108,111,119]))] [] [] [] (c1 bf)<|A.call 114 [c1 ((.str [101]))] [] [] [] (c1 bf)<|r
theorem zafa{R:Type}(A:Vc.Alg R)(yl:Vc.Yl R)(K:Vc.Ex→Vc.St→R):Vc.exec A (⟨Tryz.prog,fcalls,fext,cuI_z,cuG_z,globs,cuL_z,[]⟩:Vc.Cfg) 193 none yl (Vc.seqHd (Vc.seqTl (Vc.seqTl (Vc.seqTl (Vc.seqTl (Vc.seqTl (Vc.seqTl ((Tryz.f5.body).getD .skip)))))))) cuS_z6 K=cuW_z6 A (K .normal cuS_z7):=by kernel_rfl
theorem zbfa{R:Type}(A:Vc.Alg R)(yl:Vc.Yl R)(K:Vc.Ex→Vc.St→R):Vc.exec A (⟨Tryz.prog,fcalls,fext,cuI_z,cuG_z,globs,cuL_z,[]⟩:Vc.Cfg) 194 none yl (Vc.seqTl (Vc.seqTl (Vc.seqTl (Vc.seqTl (Vc.seqTl (Vc.seqTl ((Tryz.f5.body).getD .skip))))))) cuS_z6 K=cuW_z6 A (Vc.exec A (⟨Tryz.prog,fcalls,fext,cuI_z,cuG_z,globs,cuL_z,[]⟩:Vc.Cfg) 193 none yl (Vc.seqTl (Vc.seqTl (Vc.seqTl (Vc.seqTl (Vc.seqTl (Vc.seqTl (Vc.seqTl ((Tryz.f5.body).getD .skip)))))))) cuS_z7 K):=Vc.zbd (by kernel_rfl) (zafa A yl)
def cuS_z8:Vc.St:=⟨(0,c1 bt)::(91,c1 bt)::(90,c1 bt)::(87,c1 bt)::(89,.cv (.agg b29))::(87,c1 bt)::(88,.cv (.agg b29))::(87,c1 bt)::(87,c1 bt)::(86,c1 bt)::(85,c1 bt)::(83,c1 bt)::(84,c1 (i6 0))::(83,c1 bt)::(83,c1 bt)::(82,c1 bt)::(81,c1 bt)::(78,c1 bt)::(80,.cv (.agg b28))::(78,c1 bt)::(79,.cv (.agg b28))::(78,c1 bt)::(78,c1 bt)::(77,c1 bt)::(76,c1 bt)::(74,c1 bt)::(75,c1 (i6 0))::(74,c1 bt)::(74,c1 bt)::(73,c1 bt)::(72,c1 bt)::(70,c1 bt)::(71,c1 (i6 0))::(70,c1 bt)::(70,c1 bt)::(69,c1 bt)::(68,c1 bt)::(66,c1 bt)::(67,c1 (i6 0))::(66,c1 bt)::(66,c1 bt)::(65,c1 bt)::(64,c1 bt)::(62,c1 bt)::(63,c1 (i6 1431655765))::(62,c1 bt)::(62,c1 bt)::(61,c1 bt)::(60,c1 bt)::(58,c1 bt)::(59,c1 (i6 20))::(58,c1 bt)::(58,c1 bt)::(57,c1 bt)::(56,c1 bt)::(54,c1 bt)::(55,c1 (i6 4))::(54,c1 bt)::(54,c1 bt)::(53,c1 bt)::(52,c1 bt)::(49,c1 bt)::(51,c1 ((.str [49,53,48,48,32,107,109,32,115,94,45,49])))::(49,c1 bt)::(50,.cv (.agg b27))::(49,c1 bt)::(49,c1 bt)::(48,c1 bt)::(47,c1 (i6 0))::l6,92,(2620,[.int .u8 (.lit (45)),.int .u8 (.lit (49)),.int .u8 (.lit (0)),.int .u8 (.lit (0)),.int .u8 (.lit (0)),.int .u8 (.lit (0)),.int .u8 (.lit (0)),.int .u8 (.lit (0)),.int .u8 (.lit (0)),.int .u8 (.lit (0)),.int .u8 (.lit (0)),.int .u8 (.lit (0)),.int .u8 (.lit (0)),.int .u8 (.lit (0)),.int .u8 (.lit (0)),.int .u8 (.lit (0)),.int .u8 (.lit (0)),.int .u8 (.lit (0)),.int .u8 (.lit (0)),.int .u8 (.lit (0)),.int .u8 (.lit (0)),.int .u8 (.lit (0)),.int .u8 (.lit (0)),.int .u8 (.lit (0))],179)::(2619,[i6 1,i6 (-1),i6 0],97)::(2618,b27,49)::(2617,[.str [107,109],.str [115],.str [116]],95)::(2616,[.int .u8 (.lit (0)),.int .u8 (.lit (49)),.int .u8 (.lit (53)),.int .u8 (.lit (48)),.int .u8 (.lit (48)),.int .u8 (.lit (0)),.int .u8 (.lit (0)),.int .u8 (.lit (0)),.int .u8 (.lit (0)),.int .u8 (.lit (0)),.int .u8 (.lit (0)),.int .u8 (.lit (0)),.int .u8 (.lit (0)),.int .u8 (.lit (0)),.int .u8 (.lit (0)),.int .u8 (.lit (0)),.int .u8 (.lit (0)),.int .u8 (.lit (0)),.int .u8 (.lit (0)),.int .u8 (.lit (0)),.int .u8 (.lit (0)),.int .u8 (.lit (0)),.int .u8 (.lit (0)),.int .u8 (.lit (0))],179)::(2615,[i6 1,i6 (-1),i6 0],97)::(2614,b27,49)::(2613,b27,49)::(2612,b27,49)::l13,⟨0,0,1,15,2621,0,0⟩,(2063,[.ats b22],3,170)::(1487,[.ats b2],11,42)::(681,[.ats b4],6,40)::l14,[],[],.ifc 0 113 (.agg [i6 4,i6 20])::l16,[]⟩
def cuW_z7{R:Type}(A:Vc.Alg R)(r:R):R:=A.glo 14 gl14 194<|A.glo 14 gl14 194<|r
theorem zcfa{R:Type}(A:Vc.Alg R)(yl:Vc.Yl R)(K:Vc.Ex→Vc.St→R):Vc.exec A (⟨Tryz.prog,fcalls,fext,cuI_z,cuG_z,globs,cuL_z,[]⟩:Vc.Cfg) 192 none yl (Vc.seqHd (Vc.seqTl (Vc.seqTl (Vc.seqTl (Vc.seqTl (Vc.seqTl (Vc.seqTl (Vc.seqTl ((Tryz.f5.body).getD .skip))))))))) cuS_z7 K=cuW_z7 A (K .normal cuS_z8):=by kernel_rfl
theorem zdfa{R:Type}(A:Vc.Alg R)(yl:Vc.Yl R)(K:Vc.Ex→Vc.St→R):Vc.exec A (⟨Tryz.prog,fcalls,fext,cuI_z,cuG_z,globs,cuL_z,[]⟩:Vc.Cfg) 193 none yl (Vc.seqTl (Vc.seqTl (Vc.seqTl (Vc.seqTl (Vc.seqTl (Vc.seqTl (Vc.seqTl ((Tryz.f5.body).getD .skip)))))))) cuS_z7 K=cuW_z7 A (Vc.exec A (⟨Tryz.prog,fcalls,fext,cuI_z,cuG_z,globs,cuL_z,[]⟩:Vc.Cfg) 192 none yl (Vc.seqTl (Vc.seqTl (Vc.seqTl (Vc.seqTl (Vc.seqTl (Vc.seqTl (Vc.seqTl (Vc.seqTl ((Tryz.f5.body).getD .skip))))))))) cuS_z8 K):=Vc.zbd (by kernel_rfl) (zcfa A yl)
theorem zvfa(w:World)(v:Value):Vc.execF (Vc.PA Tryz.prog ⟨w,[]⟩ (fun u=>u=v) (fun _ _=>False) (fun _ _=>False)) (⟨Tryz.prog,fcalls,fext,cuI_z,cuG_z,globs,cuL_z,[]⟩:Vc.Cfg) 200 Tryz.f5 ((Tryz.f5.body).getD .skip) [] ⟨0,0,0,15,0,0,0⟩ [.glo 0 0,.glo 1 4,.glo 2 5,.glo 3 6,.glo 4 3,.glo 5 7,.glo 6 8,.glo 7 9,.glo 8 10,.glo 9 11,.glo 10 12,.glo 11 13,.glo 12 14,.glo 13 19,.glo 14 20]=(cuW_z0 (Vc.PA Tryz.prog ⟨w,[]⟩ (fun u=>u=v) (fun _ _=>False) (fun _ _=>False))<|cuW_z1 (Vc.PA Tryz.prog ⟨w,[]⟩ (fun u=>u=v) (fun _ _=>False) (fun _ _=>False))<|cuW_z2 (Vc.PA Tryz.prog ⟨w,[]⟩ (fun u=>u=v) (fun _ _=>False) (fun _ _=>False))<|cuW_z3 (Vc.PA Tryz.prog ⟨w,[]⟩ (fun u=>u=v) (fun _ _=>False) (fun _ _=>False))<|cuW_z4 (Vc.PA Tryz.prog ⟨w,[]⟩ (fun u=>u=v) (fun _ _=>False) (fun _ _=>False))<|cuW_z5 (Vc.PA Tryz.prog ⟨w,[]⟩ (fun u=>u=v) (fun _ _=>False) (fun _ _=>False))<|cuW_z6 (Vc.PA Tryz.prog ⟨w,[]⟩ (fun u=>u=v) (fun _ _=>False) (fun _ _=>False))<|cuW_z7 (Vc.PA Tryz.prog ⟨w,[]⟩ (fun u=>u=v) (fun _ _=>False) (fun _ _=>False))<|Vc.exec (Vc.PA Tryz.prog ⟨w,[]⟩ (fun u=>u=v) (fun _ _=>False) (fun _ _=>False)) (⟨Tryz.prog,fcalls,fext,cuI_z,cuG_z,globs,cuL_z,[]⟩:Vc.Cfg) 192 none (Vc.cutY (Vc.PA Tryz.prog ⟨w,[]⟩ (fun u=>u=v) (fun _ _=>False) (fun _ _=>False))) (Vc.seqTl (Vc.seqTl (Vc.seqTl (Vc.seqTl (Vc.seqTl (Vc.seqTl (Vc.seqTl (Vc.seqTl ((Tryz.f5.body).getD .skip))))))))) cuS_z8 (Vc.cutK (Vc.PA Tryz.prog ⟨w,[]⟩ (fun u=>u=v) (fun _ _=>False) (fun _ _=>False)) (⟨Tryz.prog,fcalls,fext,cuI_z,cuG_z,globs,cuL_z,[]⟩:Vc.Cfg) 200 Tryz.f5)) :=
 (show _=Vc.exec (Vc.PA Tryz.prog ⟨w,[]⟩ (fun u=>u=v) (fun _ _=>False) (fun _ _=>False)) (⟨Tryz.prog,fcalls,fext,cuI_z,cuG_z,globs,cuL_z,[]⟩:Vc.Cfg) 200 none (Vc.cutY (Vc.PA Tryz.prog ⟨w,[]⟩ (fun u=>u=v) (fun _ _=>False) (fun _ _=>False))) ((Tryz.f5.body).getD .skip) cuS_z0 (Vc.cutK (Vc.PA Tryz.prog ⟨w,[]⟩ (fun u=>u=v) (fun _ _=>False) (fun _ _=>False)) (⟨Tryz.prog,fcalls,fext,cuI_z,cuG_z,globs,cuL_z,[]⟩:Vc.Cfg) 200 Tryz.f5) by kernel_rfl).trans ((zpea _ _ _).trans (congrArg (cuW_z0 _) ((zrea _ _ _).trans (congrArg (cuW_z1 _) ((ztea _ _ _).trans (congrArg (cuW_z2 _) ((zvea _ _ _).trans (congrArg (cuW_z3 _) ((zxea _ _ _).trans (congrArg (cuW_z4 _) ((zzea _ _ _).trans (congrArg (cuW_z5 _) ((zbfa _ _ _).trans (congrArg (cuW_z6 _) ((zdfa _ _ _).trans (congrArg (cuW_z7 _) rfl))))))))))))))))
theorem zwf(w:World)(v:Value)(h :
 (Vq w 65 #[.string ⟨(([49,46,53]:List UInt8)).toArray⟩] (.tuple #[.agg #[.int .i64 3,.int .i64 2,.int .i64 0,.int .i64 0,.int .i64 0],.int .i64 0])) ∧
 Vg_12 w ∧
 Vg_0 w ∧
 Vg_0 w ∧
 Vg_0 w ∧
 Vg_0 w ∧
 Vg_0 w ∧
 Vg_0 w ∧
 Vg_0 w ∧
 Vg_0 w ∧
 Vg_0 w ∧
 Vg_0 w ∧
 Vg_0 w ∧
 Vg_0 w ∧
 Vg_12 w ∧
 (Vq w 65 #[.string ⟨(([50]:List UInt8)).toArray⟩] (.tuple #[.agg #[.int .i64 2,.int .i64 1,.int .i64 0,.int .i64 0,.int .i64 0],.int .i64 0])) ∧
 Vg_12 w ∧
 Vg_0 w ∧
 Vg_0 w ∧
 Vg_0 w ∧
 Vg_0 w ∧
 Vg_0 w ∧
 Vg_0 w ∧
 Vg_0 w ∧
 Vg_0 w ∧
 Vg_0 w ∧
 (Vq w 65 #[.string ⟨(([51]:List UInt8)).toArray⟩] (.tuple #[.agg #[.int .i64 3,.int .i64 1,.int .i64 0,.int .i64 0,.int .i64 0],.int .i64 0])) ∧
 Vg_12 w ∧
 ∀ v0:Vc.OV,v0.1=Value.iface 113 (.agg #[.int .i64 4,.int .i64 20]) →
 (Vq w 114 #[.string ⟨(([111,110,101]:List UInt8)).toArray⟩] (.bool false)) ∧
 Vg_0 w ∧
 Vg_0 w ∧
 Vg_0 w ∧
 Vg_0 w ∧
 Vg_0 w ∧
 Vg_0 w ∧
 (Vq w 114 #[.string ⟨(([116,97,110,107]:List UInt8)).toArray⟩] (.bool false)) ∧
 Vg_0 w ∧
 Vg_0 w ∧
 Vg_0 w ∧
 Vg_0 w ∧
 Vg_0 w ∧
 Vg_0 w ∧
 Vg_0 w ∧
 Vg_0 w ∧
 (Vq w 65 #[.string ⟨(([49,48]:List UInt8)).toArray⟩] (.tuple #[.agg #[.int .i64 10,.int .i64 1,.int .i64 0,.int .i64 0,.int .i64 0],.int .i64 0])) ∧
 Vg_12 w ∧
 Vg_0 w ∧
 Vg_0 w ∧
 Vg_0 w ∧
 Vg_0 w ∧
 Vg_0 w ∧
 Vg_0 w ∧
 (Vq w 114 #[.string ⟨(([108,111,119]:List UInt8)).toArray⟩] (.bool false)) ∧
 Vg_0 w ∧
 Vg_0 w ∧
 Vg_0 w ∧
 Vg_0 w ∧
 Vg_0 w ∧
 Vg_0 w ∧
 Vg_0 w ∧
 Vg_0 w ∧
 Vg_0 w ∧
 Vg_0 w ∧
 Vg_0 w ∧
 Vg_0 w ∧
 (Vq w 65 #[.string ⟨(([51]:List UInt8)).toArray⟩] (.tuple #[.agg #[.int .i64 3,.int .i64 1,.int .i64 0,.int .i64 0,.int .i64 0],.int .i64 0])) ∧
 Vg_4 w ∧
 Vg_12 w ∧
 Vg_0 w ∧
 Vg_0 w ∧
 Vg_0 w ∧
 Vg_0 w ∧
 Vg_0 w ∧
 Vg_0 w ∧
 Vg_0 w ∧
 Vg_0 w ∧
 Vg_0 w ∧
 Vg_0 w ∧
 Vg_0 w ∧
 Vg_0 w ∧
 Vg_0 w ∧
 Vg_0 w ∧
 Vg_4 w ∧
 Vg_12 w ∧
 (Vq w 114 #[.string ⟨(([116,97,110,107]:List UInt8)).toArray⟩] (.bool false)) ∧
 Vg_0 w ∧
 Vg_0 w ∧
 Vg_0 w ∧
 Vg_12 w ∧
 (Vq w 114 #[.string ⟨(([116,97,110,107]:List UInt8)).toArray⟩] (.bool false)) ∧
 Vg_0 w ∧
 Vg_0 w ∧
 Vg_0 w ∧
 Vg_0 w ∧
 Vg_0 w ∧
 Vg_0 w ∧
 Vg_0 w ∧
 Vg_0 w ∧
 Vg_0 w ∧
 (Vq w 65 #[.string ⟨(([50,48,48,48]:List UInt8)).toArray⟩] (.tuple #[.agg #[.int .i64 2000,.int .i64 1,.int .i64 0,.int .i64 0,.int .i64 0],.int .i64 0])) ∧
 Vg_12 w ∧
 Vg_0 w ∧
 Vg_0 w ∧
 Vg_0 w ∧
 Vg_0 w ∧
 Vg_0 w ∧
 Vg_0 w ∧
 Vg_0 w ∧
 Vg_0 w ∧
 Vg_0 w ∧
 Vg_0 w ∧
 Vg_0 w ∧
 (Vq w 114 #[.string ⟨(([101]:List UInt8)).toArray⟩] (.bool false)) ∧
 (Vq w 114 #[.string ⟨(([108,111,119]:List UInt8)).toArray⟩] (.bool false)) ∧
 Vg_0 w ∧
 Vg_0 w ∧
 Vg_0 w ∧
 Vg_0 w ∧
 Vg_5 w ∧
 Vg_6 w ∧
 Vg_3 w ∧
 Vg_7 w ∧
 Vg_7 w ∧
 Vg_0 w ∧
 Vg_0 w ∧
 Vg_0 w ∧
 Vg_0 w ∧
 Vg_0 w ∧
 Vg_0 w ∧
 Vg_0 w ∧
 Vg_0 w ∧
 (Vq w 65 #[.string ⟨(([50]:List UInt8)).toArray⟩] (.tuple #[.agg #[.int .i64 2,.int .i64 1,.int .i64 0,.int .i64 0,.int .i64 0],.int .i64 0])) ∧
 Vg_0 w ∧
 Vg_0 w ∧
 Vg_0 w ∧
 Vg_0 w ∧
 Vg_0 w ∧
 Vg_0 w ∧
 Vg_12 w ∧
 Vg_3 w ∧
 Vg_0 w ∧
 Vg_0 w ∧
 Vg_0 w ∧
 Vg_0 w ∧
 Vg_0 w ∧
 Vg_0 w ∧
 Vg_0 w ∧
 Vg_0 w ∧
 (Vq w 65 #[.string ⟨(([49]:List UInt8)).toArray⟩] (.tuple #[.agg #[.int .i64 1,.int .i64 1,.int .i64 0,.int .i64 0,.int .i64 0],.int .i64 0])) ∧
 Vg_12 w ∧
 Vg_0 w ∧
 Vg_0 w ∧
 (Vq w 65 #[.string ⟨(([49]:List UInt8)).toArray⟩] (.tuple #[.agg #[.int .i64 1,.int .i64 1,.int .i64 0,.int .i64 0,.int .i64 0],.int .i64 0])) ∧
 Vg_12 w ∧
 Vg_0 w ∧
 Vg_0 w ∧
 Vg_0 w ∧
 Vg_0 w ∧
 Vg_0 w ∧
 Vg_0 w ∧
 Vg_0 w ∧
 Vg_0 w ∧
 Vg_0 w ∧
 Vg_0 w ∧
 Vg_0 w ∧
 Vg_0 w ∧
 Vg_0 w ∧
 Vg_0 w ∧
 (Vq w 65 #[.string ⟨(([49]:List UInt8)).toArray⟩] (.tuple #[.agg #[.int .i64 1,.int .i64 1,.int .i64 0,.int .i64 0,.int .i64 0],.int .i64 0])) ∧
 Vg_12 w ∧
 Vg_0 w ∧
 Vg_0 w ∧
 Vg_0 w ∧
 Vg_0 w ∧
 Vg_0 w ∧
 Vg_0 w ∧
 Vg_0 w ∧
 Vg_0 w ∧
 Vg_0 w ∧
 Vg_0 w ∧
 Vg_0 w ∧
 Vg_0 w ∧
 Vg_12 w ∧
 Vg_0 w ∧
 Vg_0 w ∧
 Vg_0 w ∧
 (Vq w 65 #[.string ⟨(([50]:List UInt8)).toArray⟩] (.tuple #[.agg #[.int .i64 2,.int .i64 1,.int .i64 0,.int .i64 0,.int .i64 0],.int .i64 0])) ∧
 Vg_12 w ∧
 Vg_0 w ∧
 Vg_0 w ∧
 Vg_0 w ∧
 Vg_0 w ∧
 Vg_0 w ∧
 Vg_0 w ∧
 Vg_0 w ∧
 Vg_0 w ∧
 Vg_0 w ∧
 Vg_0 w ∧
 Vg_0 w ∧
 Vg_0 w ∧
 Vg_12 w ∧
 Vg_0 w ∧
 Vg_0 w ∧
 Vg_0 w ∧
 Vg_0 w ∧
 Vg_0 w ∧
 Vg_0 w ∧
 Vg_0 w ∧
 Vg_0 w ∧
 Vg_0 w ∧
 Vg_0 w ∧
 Vg_0 w ∧
 Vg_0 w ∧
 Vg_0 w ∧
 Vg_0 w ∧
 (Vq w 65 #[.string ⟨(([48,46,53]:List UInt8)).toArray⟩] (.tuple #[.agg #[.int .i64 1,.int .i64 2,.int .i64 0,.int .i64 0,.int .i64 0],.int .i64 0])) ∧
 Vg_0 w ∧
 Vg_0 w ∧
 Vg_0 w ∧
 Vg_0 w ∧
 Vg_0 w ∧
 Vg_0 w ∧
 Vg_12 w ∧
 Vg_0 w ∧
 Vg_0 w ∧
 Vg_0 w ∧
 Vg_0 w ∧
 Vg_0 w ∧
 Vg_0 w ∧
 Vg_0 w ∧
 Vg_0 w ∧
 (Vq w 65 #[.string ⟨(([50]:List UInt8)).toArray⟩] (.tuple #[.agg #[.int .i64 2,.int .i64 1,.int .i64 0,.int .i64 0,.int .i64 0],.int .i64 0])) ∧
 Vg_12 w ∧
 Vg_0 w ∧
 Vg_0 w ∧
 Vg_0 w ∧
 Vg_0 w ∧
 Vg_0 w ∧
 Vg_0 w ∧
 Vg_0 w ∧
 Vg_0 w ∧
 Vg_0 w ∧
 Vg_0 w ∧
 Vg_0 w ∧
 Vg_0 w ∧
 Vg_0 w ∧
 Vg_0 w ∧
 (Vq w 65 #[.string ⟨(([49]:List UInt8)).toArray⟩] (.tuple #[.agg #[.int .i64 1,.int .i64 1,.int .i64 0,.int .i64 0,.int .i64 0],.int .i64 0])) ∧
 Vg_12 w ∧
 Vg_0 w ∧
 Vg_0 w ∧
 Vg_0 w ∧
 Vg_0 w ∧
 Vg_0 w ∧
 Vg_0 w ∧
 Vg_0 w ∧
 Vg_0 w ∧
 Vg_0 w ∧
 Vg_0 w ∧
 Vg_0 w ∧
 Vg_0 w ∧
 Vg_0 w ∧
 Vg_0 w ∧
 Vg_0 w ∧
 (Vq w 65 #[.string ⟨(([48]:List UInt8)).toArray⟩] (.tuple #[.agg #[.int .i64 0,.int .i64 1,.int .i64 0,.int .i64 0,.int .i64 0],.int .i64 0])) ∧
 Vg_8 w ∧
 Vg_12 w ∧
 Vg_0 w ∧
 Vg_0 w ∧
 Vg_0 w ∧
 Vg_0 w ∧
 Vg_0 w ∧
 Vg_0 w ∧
 Vg_0 w ∧
 Vg_0 w ∧
 Vg_0 w ∧
 Vg_0 w ∧
 Vg_0 w ∧
 Vg_0 w ∧
 Vg_12 w ∧
 Vg_0 w ∧
 Vg_0 w ∧
 Vg_0 w ∧
 Vg_0 w ∧
 Vg_0 w ∧
 Vg_0 w ∧
 Vg_0 w ∧
 (Vq w 65 #[.string ⟨(([49]:List UInt8)).toArray⟩] (.tuple #[.agg #[.int .i64 1,.int .i64 1,.int .i64 0,.int .i64 0,.int .i64 0],.int .i64 0])) ∧
 Vg_9 w ∧
 Vg_12 w ∧
 Vg_0 w ∧
 Vg_0 w ∧
 Vg_0 w ∧
 Vg_0 w ∧
 Vg_0 w ∧
 Vg_0 w ∧
 Vg_0 w ∧
 Vg_0 w ∧
 Vg_0 w ∧
 Vg_0 w ∧
 Vg_0 w ∧
 Vg_12 w ∧
 Vg_0 w ∧
 Vg_0 w ∧
 Vg_0 w ∧
 Vg_0 w ∧
 Vg_0 w ∧
 Vg_0 w ∧
 (Vq w 65 #[.string ⟨(([49]:List UInt8)).toArray⟩] (.tuple #[.agg #[.int .i64 1,.int .i64 1,.int .i64 0,.int .i64 0,.int .i64 0],.int .i64 0])) ∧
 Vg_8 w ∧
 Vg_12 w ∧
 Vg_0 w ∧
 Vg_0 w ∧
 Vg_0 w ∧
 Vg_0 w ∧
 Vg_0 w ∧
 Vg_0 w ∧
 Vg_0 w ∧
 Vg_0 w ∧
 Vg_0 w ∧
 Vg_0 w ∧
 Vg_0 w ∧
 Vg_0 w ∧
 Vg_12 w ∧
 Vg_0 w ∧
 Vg_0 w ∧
 Vg_0 w ∧
 Vg_0 w ∧
 Vg_0 w ∧
 Vg_0 w ∧
 Vg_0 w ∧
 (Vq w 65 #[.string ⟨(([50]:List UInt8)).toArray⟩] (.tuple #[.agg #[.int .i64 2,.int .i64 1,.int .i64 0,.int .i64 0,.int .i64 0],.int .i64 0])) ∧
 Vg_9 w ∧
 Vg_12 w ∧
 Vg_0 w ∧
 Vg_0 w ∧
 Vg_0 w ∧
 Vg_0 w ∧
 Vg_0 w ∧
 Vg_0 w ∧
 Vg_0 w ∧
 Vg_0 w ∧
 Vg_0 w ∧
 Vg_0 w ∧
 Vg_0 w ∧
 Vg_12 w ∧
 Vg_0 w ∧
 Vg_0 w ∧
 Vg_0 w ∧
 (Vq w 65 #[.string ⟨(([51]:List UInt8)).toArray⟩] (.tuple #[.agg #[.int .i64 3,.int .i64 1,.int .i64 0,.int .i64 0,.int .i64 0],.int .i64 0])) ∧
 Vg_12 w ∧
 Vg_0 w ∧
 Vg_0 w ∧
 Vg_0 w ∧
 Vg_0 w ∧
 Vg_0 w ∧
 Vg_0 w ∧
 Vg_0 w ∧
 Vg_0 w ∧
 Vg_0 w ∧
 Vg_0 w ∧
 Vg_0 w ∧
 Vg_12 w ∧
 Vg_0 w ∧
 Vg_0 w ∧
 Vg_0 w ∧
 Vg_0 w ∧
 Vg_0 w ∧
 Vg_0 w ∧
 Vg_0 w ∧
 Vg_0 w ∧
 Vg_0 w ∧
 Vg_0 w ∧
 Vg_0 w ∧
 Vg_0 w ∧
 Vg_0 w ∧
 Vg_0 w ∧
 Vg_0 w ∧
 Vg_0 w ∧
 Vg_0 w ∧
 Vg_0 w ∧
 Vg_0 w ∧
 Vg_0 w ∧
 Vg_0 w ∧
 Vg_0 w ∧
 Vg_0 w ∧
 (Vq w 65 #[.string ⟨(([53,48]:List UInt8)).toArray⟩] (.tuple #[.agg #[.int .i64 50,.int .i64 1,.int .i64 0,.int .i64 0,.int .i64 0],.int .i64 0])) ∧
 Vg_10 w ∧
 Vg_12 w ∧
 Vg_0 w ∧
 Vg_0 w ∧
 Vg_0 w ∧
 Vg_0 w ∧
 Vg_0 w ∧
 Vg_0 w ∧
 Vg_0 w ∧
 Vg_0 w ∧
 Vg_0 w ∧
 Vg_0 w ∧
 Vg_0 w ∧
 Vg_0 w ∧
 Vg_12 w ∧
 Vg_0 w ∧
 Vg_0 w ∧
 Vg_0 w ∧
 Vg_0 w ∧
 Vg_0 w ∧
 Vg_0 w ∧
 Vg_0 w ∧
 Vg_0 w ∧
 Vg_0 w ∧
 Vg_0 w ∧
 Vg_0 w ∧
 Vg_0 w ∧
 Vg_12 w ∧
 Vg_0 w ∧
 Vg_0 w ∧
 Vg_0 w ∧
 Vg_0 w ∧
 Vg_0 w ∧
 Vg_0 w ∧
 Vg_0 w ∧
 Vg_0 w ∧
 Vg_0 w ∧
 Vg_0 w ∧
 Vg_0 w ∧
 Vg_0 w ∧
 Vg_0 w ∧
 Vg_0 w ∧
 (Vq w 65 #[.string ⟨(([51,53]:List UInt8)).toArray⟩] (.tuple #[.agg #[.int .i64 35,.int .i64 1,.int .i64 0,.int .i64 0,.int .i64 0],.int .i64 0])) ∧
 Vg_11 w ∧
 Vg_12 w ∧
 Vg_0 w ∧
 Vg_0 w ∧
 Vg_0 w ∧
 Vg_0 w ∧
 Vg_0 w ∧
 Vg_0 w ∧
 Vg_0 w ∧
 Vg_0 w ∧
 Vg_0 w ∧
 Vg_0 w ∧
 Vg_0 w ∧
 Vg_0 w ∧
 Vg_0 w ∧
 Vg_0 w ∧
 Vg_0 w ∧
 Vg_0 w ∧
 Vg_0 w ∧
 Vg_0 w ∧
 Vg_0 w ∧
 (Vq w 65 #[.string ⟨(([49]:List UInt8)).toArray⟩] (.tuple #[.agg #[.int .i64 1,.int .i64 1,.int .i64 0,.int .i64 0,.int .i64 0],.int .i64 0])) ∧
 Vg_4 w ∧
 Vg_12 w ∧
 Vg_0 w ∧
 Vg_0 w ∧
 Vg_0 w ∧
 Vg_0 w ∧
 Vg_0 w ∧
 Vg_0 w ∧
 (Vq w 114 #[.string ⟨(([111,110,101]:List UInt8)).toArray⟩] (.bool false)) ∧
 (Vq w 114 #[.string ⟨(([108,111,119]:List UInt8)).toArray⟩] (.bool false)) ∧
 (Vq w 114 #[.string ⟨(([101]:List UInt8)).toArray⟩] (.bool false)) ∧
 (Vq w 114 #[.string ⟨(([111,110,101]:List UInt8)).toArray⟩] (.bool false)) ∧
 (Vq w 114 #[.string ⟨(([108,111,119]:List UInt8)).toArray⟩] (.bool false)) ∧
 (Vq w 114 #[.string ⟨(([101]:List UInt8)).toArray⟩] (.bool false)) ∧
 (Vq w 21 #[.agg #[.string ⟨(([101]:List UInt8)).toArray⟩,.int .i64 2,.int .i64 4290672328,.int .i64 4299262264,.int .i64 4294967296,.int .i64 8589934592,.int .i64 2147483648,.int .i64 8589934592,.int .i64 8589934592,.int .i64 4294967296,.int .i64 4294967296]] (.agg #[.int .i64 4294967296,.int .i64 8589934592])) ∧
 (Vq w 12 #[.agg #[.int .i64 42949672960,.int .i64 51539607552],.agg #[.int .i64 8589934592,.int .i64 17179869184]] (.tuple #[.agg #[.int .i64 10737418240,.int .i64 25769803776],.int .i64 0])) ∧
 (Vq w 114 #[.string ⟨(([111,110,101]:List UInt8)).toArray⟩] (.bool false)) ∧
 (Vq w 114 #[.string ⟨(([108,111,119]:List UInt8)).toArray⟩] (.bool false)) ∧
 (Vq w 114 #[.string ⟨(([101]:List UInt8)).toArray⟩] (.bool false)) ∧
 Vg_14 w ∧
 Vg_14 w ∧
 (.bool true:Value)=v):Calls Tryz.prog 5 #[] w (Vc.Ret v w) :=
 Vc.zcaa (ze cuI_z ztfa) cuG_z globs cuL_z zufa 200 Tryz.func5 (b:=((Tryz.f5.body).getD .skip)) (by kernel_rfl) [] ⟨0,0,0,15,0,0,0⟩ [.glo 0 0,.glo 1 4,.glo 2 5,.glo 3 6,.glo 4 3,.glo 5 7,.glo 6 8,.glo 7 9,.glo 8 10,.glo 9 11,.glo 10 12,.glo 11 13,.glo 12 14,.glo 13 19,.glo 14 20] (Vc.envOf [] [] [] [(0,0),(4,0),(5,0),(6,0),(3,0),(7,0),(8,0),(9,0),(10,0),(11,0),(12,0),(13,0),(14,0),(19,0),(20,0)]) (by kernel_rfl) (Vc.zl (by kernel_rfl) rfl (Vc.zl (by kernel_rfl) rfl (Vc.zl (by kernel_rfl) rfl (Vc.zl (by kernel_rfl) rfl (Vc.zl (by kernel_rfl) rfl (Vc.zl (by kernel_rfl) rfl (Vc.zl (by kernel_rfl) rfl (Vc.zl (by kernel_rfl) rfl (Vc.zl (by kernel_rfl) rfl (Vc.zl (by kernel_rfl) rfl (Vc.zl (by kernel_rfl) rfl (Vc.zl (by kernel_rfl) rfl (Vc.zl (by kernel_rfl) rfl (Vc.zl (by kernel_rfl) rfl (Vc.zl (by kernel_rfl) rfl Vc.zc))))))))))))))) (by kernel_rfl) ((congrFun (zvfa w v) _).trans (by kernel_rfl)) h
end Go.Proofs.YtkjmhcejdiglfacGreatDoor
