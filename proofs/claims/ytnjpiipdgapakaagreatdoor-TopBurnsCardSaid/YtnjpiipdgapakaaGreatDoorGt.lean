import Derived.Test.YtnjpiipdgapakaaGreatDoorG0
set_option linter.unusedVariables false
set_option maxRecDepth 100000
namespace Go.Proofs.YtnjpiipdgapakaaGreatDoor
open Go Go.RowKit
theorem TW(p0 p1:Nat × Nat)(x0 x1 x2 x3 x4 x5 x6 x7 x8 x9 aR aN bg bo bc bt a_ bG bz bC bA bD bd b_ cD bX eP ei cY du fT dw cT ek eH cg fW fD fX gh gw iu gV iP ma oN ov qI pD pE ou xV xW xX:Int)(b0 b1:Bool)(w:World)(v:Value)(h :
 (Vq w 31 #[.agg #[.int .i64 0,.int .i64 0]] (.int .i64 0)) /\
 (Vq w 31 #[.agg #[.int .i64 0,.int .i64 0]] (.int .i64 0)) /\
 (Vq w 31 #[.agg #[.int .i64 0,.int .i64 0]] (.int .i64 0)) /\
 (Vq w 31 #[.agg #[.int .i64 0,.int .i64 0]] (.int .i64 0)) /\
 (Vq w 31 #[.agg #[.int .i64 0,.int .i64 0]] (.int .i64 0)) /\
 (Vq w 31 #[.agg #[.int .i64 0,.int .i64 0]] (.int .i64 0)) /\
 (Vq w 31 #[.agg #[.int .i64 0,.int .i64 0]] (.int .i64 0)) /\
 (((-9223372036854775807)<=bc)->(
 ∃(BB:Int),(Vq w 31 #[.agg #[.int .i64 bt,.int .i64 a_]] (.int .i64 BB)) /\
 ((BB=0)->(
 ∃(Ad:Int),(Vq w 31 #[.agg #[.int .i64 bG,.int .i64 bz]] (.int .i64 Ad)) /\
 ((Ad=0)->(
 ∃(BC:Int),(Vq w 31 #[.agg #[.int .i64 bC,.int .i64 bA]] (.int .i64 BC)) /\
 ((BC=0)->(
 ∃(BD:Int),(Vq w 31 #[.agg #[.int .i64 bD,.int .i64 bd]] (.int .i64 BD)) /\
 ((BD=0)->(
 ∃(BF:Int),(Vq w 31 #[.agg #[.int .i64 b_,.int .i64 cD]] (.int .i64 BF)) /\
 ((BF=0)->(
 ∃(BG:Int),(Vq w 31 #[.agg #[.int .i64 bX,.int .i64 eP]] (.int .i64 BG)) /\
 ((BG=0)->(
 ∃(BH:Int),(Vq w 31 #[.agg #[.int .i64 ei,.int .i64 cY]] (.int .i64 BH)) /\
 ((BH=0)->(
 ((ei<=0)->(
 (.int .i64 2:Value)=v))/\(¬(ei<=0)->(
 (∀(β:Nat->Nat) (w':World),Below w.heap.size w w'->(True)->Calls Tryz.prog 52 #[.slice none 0 0,.int .i64 6] w' (Vc.yT (β 25) (β 26) (([]:List Value)) 2 25 w')) /\
 (Vq w 25 #[.agg #[.int .i64 0,.int .i64 0],.agg #[.int .i64 (-4294967296),.int .i64 4294967296]] (.bool true)) /\
 (Vq w 25 #[.agg #[.int .i64 0,.int .i64 0],.agg #[.int .i64 (-4294967296),.int .i64 4294967296]] (.bool true)) /\
 (Vq w 25 #[.agg #[.int .i64 0,.int .i64 0],.agg #[.int .i64 (-4294967296),.int .i64 4294967296]] (.bool true)) /\
 (Vq w 25 #[.agg #[.int .i64 0,.int .i64 0],.agg #[.int .i64 (-4294967296),.int .i64 4294967296]] (.bool true)) /\
 (Vq w 25 #[.agg #[.int .i64 0,.int .i64 0],.agg #[.int .i64 (-4294967296),.int .i64 4294967296]] (.bool true)) /\
 (Vq w 25 #[.agg #[.int .i64 0,.int .i64 0],.agg #[.int .i64 (-4294967296),.int .i64 4294967296]] (.bool true)) /\
 ∃(BI:Int),w.cell? ⟨p0.1,p0.2+(Int.toNat 0)*19+0,none⟩=some (.int .i64 BI) /\
 ∃(BJ:Int),w.cell? ⟨p0.1,p0.2+(Int.toNat 0)*19+1,none⟩=some (.int .i64 BJ) /\
 ∃(Ae:Int),w.cell? ⟨p0.1,p0.2+(Int.toNat 0)*19+2,none⟩=some (.int .i64 Ae) /\
 ∃(Qa:Int),w.cell? ⟨p0.1,p0.2+(Int.toNat 0)*19+3,none⟩=some (.int .i64 Qa) /\
 ∃(Gh:Int),w.cell? ⟨p0.1,p0.2+(Int.toNat 0)*19+4,none⟩=some (.int .i64 Gh) /\
 ∃(Qb:Int),w.cell? ⟨p0.1,p0.2+(Int.toNat 0)*19+5,none⟩=some (.int .i64 Qb) /\
 ∃(TX:Int),w.cell? ⟨p0.1,p0.2+(Int.toNat 0)*19+6,none⟩=some (.int .i64 TX) /\
 ∃(TY:Int),w.cell? ⟨p0.1,p0.2+(Int.toNat 0)*19+7,none⟩=some (.int .i64 TY) /\
 ∃(TZ:Int),w.cell? ⟨p0.1,p0.2+(Int.toNat 0)*19+8,none⟩=some (.int .i64 TZ) /\
 ∃(T0:Int),w.cell? ⟨p0.1,p0.2+(Int.toNat 0)*19+9,none⟩=some (.int .i64 T0) /\
 ∃(T1:Int),w.cell? ⟨p0.1,p0.2+(Int.toNat 0)*19+10,none⟩=some (.int .i64 T1) /\
 ∃(T2:Int),w.cell? ⟨p0.1,p0.2+(Int.toNat 0)*19+11,none⟩=some (.int .i64 T2) /\
 ∃(b2:Bool) (p2:Nat × Nat) (xY Gi:Int),w.cell? ⟨p0.1,p0.2+(Int.toNat 0)*19+12,none⟩=some ((if b2=true then .slice none 0 0 else .slice (some (Vc.bR p2 xY.toNat Gi.toNat)) xY.toNat Gi.toNat:Value)) /\
 ∃(Gj:Int),w.cell? ⟨p0.1,p0.2+(Int.toNat 0)*19+13,none⟩=some (.int .i64 Gj) /\
 ∃(Qc:Int),w.cell? ⟨p0.1,p0.2+(Int.toNat 0)*19+14,none⟩=some (.int .i64 Qc) /\
 ∃(Qd:Int),w.cell? ⟨p0.1,p0.2+(Int.toNat 0)*19+15,none⟩=some (.int .i64 Qd) /\
 ∃(Qe:Int),w.cell? ⟨p0.1,p0.2+(Int.toNat 0)*19+16,none⟩=some (.int .i64 Qe) /\
 ∃(Qf:Int),w.cell? ⟨p0.1,p0.2+(Int.toNat 0)*19+17,none⟩=some (.int .i64 Qf) /\
 ∃(Qg:Int),w.cell? ⟨p0.1,p0.2+(Int.toNat 0)*19+18,none⟩=some (.int .i64 Qg) /\
 ∃(b3:Bool),(Vq w 25 #[.agg #[.int .i64 Qd,.int .i64 Qe],.agg #[.int .i64 (-4294967296),.int .i64 4294967296]] (.bool b3)) /\
 ((b3=true)->(
 ∃(b4:Bool),(Vq w 25 #[.agg #[.int .i64 Qf,.int .i64 Qg],.agg #[.int .i64 0,.int .i64 4294967296]] (.bool b4)) /\
 ((b4=true)->(
 (Vq w 25 #[.agg #[.int .i64 0,.int .i64 0],.agg #[.int .i64 (-4294967296),.int .i64 4294967296]] (.bool true)) /\
 (Vq w 25 #[.agg #[.int .i64 0,.int .i64 0],.agg #[.int .i64 (-4294967296),.int .i64 4294967296]] (.bool true)) /\
 (Vq w 25 #[.agg #[.int .i64 0,.int .i64 0],.agg #[.int .i64 (-4294967296),.int .i64 4294967296]] (.bool true)) /\
 ∃(Ka:Int),(Vq w 31 #[.agg #[.int .i64 Ae,.int .i64 Qa]] (.int .i64 Ka)) /\
 ((Ka=0)->(
 ((Ae<0)->(
 (.int .i64 2:Value)=v))/\(¬(Ae<0)->(
 ∃(Kb:Int),(Vq w 31 #[.agg #[.int .i64 Gh,.int .i64 Qb]] (.int .i64 Kb)) /\
 ((Kb=0)->(
 ((Gh<0)->(
 (.int .i64 2:Value)=v))/\(¬(Gh<0)->(
 ∃(Kc:Int),(Vq w 31 #[.agg #[.int .i64 Gj,.int .i64 Qc]] (.int .i64 Kc)) /\
 ((Kc=0)->(
 ((Gj<0)->(
 (.int .i64 2:Value)=v))/\(¬(Gj<0)->(
 ((BI<=0)->(
 (.int .i64 2:Value)=v))/\(¬(BI<=0)->(
 ((BJ<=0)->(
 (.int .i64 2:Value)=v))/\(¬(BJ<=0)->(
 (0<=xY) /\
 ((¬(b2=true))∨(xY=0)) /\
 ((0<xY)->(
 ∃(Kd:Int),(Vq w 29 #[(if b2=true then .slice none 0 0 else .slice (some (Vc.bR p2 xY.toNat Gi.toNat)) xY.toNat Gi.toNat:Value)] (.int .i64 Kd)) /\
 ((Kd=0)->(
 (Vq w 31 #[.agg #[.int .i64 0,.int .i64 0]] (.int .i64 0)) /\
 (Vq w 31 #[.agg #[.int .i64 0,.int .i64 0]] (.int .i64 0)) /\
 (Vq w 31 #[.agg #[.int .i64 0,.int .i64 0]] (.int .i64 0)) /\
 (.int .i64 0:Value)=v))/\(¬(Kd=0)->(
 (.int .i64 2:Value)=v))))/\(¬(0<xY)->(
 (Vq w 31 #[.agg #[.int .i64 0,.int .i64 0]] (.int .i64 0)) /\
 (Vq w 31 #[.agg #[.int .i64 0,.int .i64 0]] (.int .i64 0)) /\
 (Vq w 31 #[.agg #[.int .i64 0,.int .i64 0]] (.int .i64 0)) /\
 (.int .i64 0:Value)=v))))))))))/\(¬(Kc=0)->(
 (.int .i64 2:Value)=v))))))/\(¬(Kb=0)->(
 (.int .i64 2:Value)=v))))))/\(¬(Ka=0)->(
 (.int .i64 2:Value)=v))))/\(¬(b4=true)->(
 (.int .i64 2:Value)=v))))/\(¬(b3=true)->(
 (.int .i64 2:Value)=v))))))/\(¬(BH=0)->(
 (.int .i64 2:Value)=v))))/\(¬(BG=0)->(
 (.int .i64 2:Value)=v))))/\(¬(BF=0)->(
 (.int .i64 2:Value)=v))))/\(¬(BD=0)->(
 (.int .i64 2:Value)=v))))/\(¬(BC=0)->(
 (.int .i64 2:Value)=v))))/\(¬(Ad=0)->(
 (.int .i64 2:Value)=v))))/\(¬(BB=0)->(
 (.int .i64 2:Value)=v))))/\(¬((-9223372036854775807)<=bc)->(
 (.int .i64 2:Value)=v))):Calls Tryz.prog 8 #[.agg #[.int .i64 0,.int .i64 0,.int .i64 0,.int .i64 0,.int .i64 0,.int .i64 0,.int .i64 0,.int .i64 0,.int .i64 0,.int .i64 0,.int .i64 0,.int .i64 0,.int .i64 0,.int .i64 0,.int .i64 bc,.int .i64 bt,.int .i64 a_,.int .i64 bG,.int .i64 bz,.int .i64 bC,.int .i64 bA,.int .i64 bD,.int .i64 bd,.int .i64 b_,.int .i64 cD,.int .i64 bX,.int .i64 eP,.int .i64 ei,.int .i64 cY,.int .i64 0,.int .i64 0,.int .i64 0,.int .i64 0,.int .i64 0,.int .i64 0,.int .i64 0,.int .i64 0,.int .i64 0,.int .i64 0,.int .i64 0,.int .i64 0,.slice (some ⟨p0.1,p0.2,none⟩) 1 gV.toNat,.slice none 0 0,.int .i64 0,.int .i64 0,.int .i64 0,.int .i64 0,.int .i64 0,.int .i64 0,.int .i64 0,.int .i64 0,.int .i64 0]] w (Vc.aw v w) :=
 Vc.zb (ze [27,28,26,22,23,45,42,51,46,24,30,54] (by kernel_rfl)) [(700000000000000031,.ai [[(10,0),(10,0),(0,0)]] [] [] []),(700000000000000025,.ai [[(10,0),(10,0),(10,8589934591),(10,8589934592),(1,1)],[(10,0),(10,8589934592),(10,0),(10,8589934592),(1,1)]] [] [] []),(410000000000000052,.inv [] [25] [])] [] 200 Tryz.func8 (b:=(Tryz.f8.body).getD .skip) (by kernel_rfl) [.cv (.agg [.int .i64 (.lit (0)),.int .i64 (.lit (0)),.int .i64 (.lit (0)),.int .i64 (.lit (0)),.int .i64 (.lit (0)),.int .i64 (.lit (0)),.int .i64 (.lit (0)),.int .i64 (.lit (0)),.int .i64 (.lit (0)),.int .i64 (.lit (0)),.int .i64 (.lit (0)),.int .i64 (.lit (0)),.int .i64 (.lit (0)),.int .i64 (.lit (0)),.int .i64 (.var 14),.int .i64 (.var 15),.int .i64 (.var 16),.int .i64 (.var 17),.int .i64 (.var 18),.int .i64 (.var 19),.int .i64 (.var 20),.int .i64 (.var 21),.int .i64 (.var 22),.int .i64 (.var 23),.int .i64 (.var 24),.int .i64 (.var 25),.int .i64 (.var 26),.int .i64 (.var 27),.int .i64 (.var 28),.int .i64 (.lit (0)),.int .i64 (.lit (0)),.int .i64 (.lit (0)),.int .i64 (.lit (0)),.int .i64 (.lit (0)),.int .i64 (.lit (0)),.int .i64 (.lit (0)),.int .i64 (.lit (0)),.int .i64 (.lit (0)),.int .i64 (.lit (0)),.int .i64 (.lit (0)),.int .i64 (.lit (0)),.jf 0 (.lit (0)) 19 (.lit (1)) (.var 42),.c_,.int .i64 (.lit (0)),.int .i64 (.lit (0)),.int .i64 (.lit (0)),.int .i64 (.lit (0)),.int .i64 (.lit (0)),.int .i64 (.lit (0)),.int .i64 (.lit (0)),.int .i64 (.lit (0)),.int .i64 (.lit (0))])] ⟨54,2,0,2,0,0,0⟩ [] (Vc.aB [x0,x1,x2,x3,x4,x5,x6,x7,x8,x9,aR,aN,bg,bo,bc,bt,a_,bG,bz,bC,bA,bD,bd,b_,cD,bX,eP,ei,cY,du,fT,dw,cT,ek,eH,cg,fW,fD,fX,gh,gw,iu,gV,iP,ma,oN,ov,qI,pD,pE,ou,xV,xW,xX] [b0,b1] [] [p0,p1]) (by kernel_rfl) Vc.zc (by kernel_rfl) (by kernel_rfl) h
theorem T3(p0 p1 p2:Nat × Nat)(x0 x1 x2 x3 x4 x5 x6 x7 x8 x9 aR aN bg bo bc bt a_ bG bz bC bA bD bd b_ cD bX eP ei cY du fT dw cT ek eH cg fW fD fX gh gw iu gV iP ma oN ov qI pD pE ou xV xW xX BB:Int)(b0 b1:Bool)(w:World)(v:Value)(h :
 ∃(Ad:Int),(Vq w 8 #[.agg #[.int .i64 0,.int .i64 0,.int .i64 0,.int .i64 0,.int .i64 0,.int .i64 0,.int .i64 0,.int .i64 0,.int .i64 0,.int .i64 0,.int .i64 0,.int .i64 0,.int .i64 0,.int .i64 0,.int .i64 bc,.int .i64 bt,.int .i64 a_,.int .i64 bG,.int .i64 bz,.int .i64 bC,.int .i64 bA,.int .i64 bD,.int .i64 bd,.int .i64 b_,.int .i64 cD,.int .i64 bX,.int .i64 eP,.int .i64 ei,.int .i64 cY,.int .i64 0,.int .i64 0,.int .i64 0,.int .i64 0,.int .i64 0,.int .i64 0,.int .i64 0,.int .i64 0,.int .i64 0,.int .i64 0,.int .i64 0,.int .i64 0,.slice (some ⟨p0.1,p0.2,none⟩) 1 gV.toNat,.slice none 0 0,.int .i64 0,.int .i64 0,.int .i64 0,.int .i64 0,.int .i64 0,.int .i64 0,.int .i64 0,.int .i64 0,.int .i64 0]] (.int .i64 Ad)) /\
 ((Ad=0)->(
 ∃(BC:Int),w.cell? ⟨p2.1,p2.2+(Int.toNat 0)*4+0,none⟩=some (.int .i64 BC) /\
 ∃(BD:Int),w.cell? ⟨p2.1,p2.2+(Int.toNat 0)*4+1,none⟩=some (.int .i64 BD) /\
 ∃(BF:Int),w.cell? ⟨p2.1,p2.2+(Int.toNat 0)*4+2,none⟩=some (.int .i64 BF) /\
 ∃(BG:Int),w.cell? ⟨p2.1,p2.2+(Int.toNat 0)*4+3,none⟩=some (.int .i64 BG) /\
 ∃(BH:Int),w.cell? ⟨p0.1,p0.2+(Int.toNat 0)*19+15,none⟩=some (.int .i64 BH) /\
 ∃(BI:Int),w.cell? ⟨p0.1,p0.2+(Int.toNat 0)*19+16,none⟩=some (.int .i64 BI) /\
 ∃(b2:Bool),(Vq w 25 #[.agg #[.int .i64 BC,.int .i64 BD],.agg #[.int .i64 BH,.int .i64 BI]] (.bool b2)) /\
 ((b2=true)->(
 ∃(BJ:Int),w.cell? ⟨p0.1,p0.2+(Int.toNat 0)*19+17,none⟩=some (.int .i64 BJ) /\
 ∃(Ae:Int),w.cell? ⟨p0.1,p0.2+(Int.toNat 0)*19+18,none⟩=some (.int .i64 Ae) /\
 ∃(b3:Bool),(Vq w 25 #[.agg #[.int .i64 BF,.int .i64 BG],.agg #[.int .i64 BJ,.int .i64 Ae]] (.bool b3)) /\
 ((b3=true)->(
 (.int .i64 0:Value)=v))/\(¬(b3=true)->(
 (.int .i64 2:Value)=v))))/\(¬(b2=true)->(
 (.int .i64 2:Value)=v))))/\(¬(Ad=0)->(
 (.int .i64 2:Value)=v))):Calls Tryz.prog 33 #[.agg #[.int .i64 0,.int .i64 0,.int .i64 0,.int .i64 0,.int .i64 0,.int .i64 0,.int .i64 0,.int .i64 0,.int .i64 0,.int .i64 0,.int .i64 0,.int .i64 0,.int .i64 0,.int .i64 0,.int .i64 bc,.int .i64 bt,.int .i64 a_,.int .i64 bG,.int .i64 bz,.int .i64 bC,.int .i64 bA,.int .i64 bD,.int .i64 bd,.int .i64 b_,.int .i64 cD,.int .i64 bX,.int .i64 eP,.int .i64 ei,.int .i64 cY,.int .i64 0,.int .i64 0,.int .i64 0,.int .i64 0,.int .i64 0,.int .i64 0,.int .i64 0,.int .i64 0,.int .i64 0,.int .i64 0,.int .i64 0,.int .i64 0,.slice (some ⟨p0.1,p0.2,none⟩) 1 gV.toNat,.slice none 0 0,.int .i64 0,.int .i64 0,.int .i64 0,.int .i64 0,.int .i64 0,.int .i64 0,.int .i64 0,.int .i64 0,.int .i64 0],.slice (some ⟨p2.1,p2.2,none⟩) 1 BB.toNat] w (Vc.aw v w) :=
 Vc.zb base [] [] 200 Tryz.func33 (b:=(Tryz.f33.body).getD .skip) (by kernel_rfl) [.cv (.agg [.int .i64 (.lit (0)),.int .i64 (.lit (0)),.int .i64 (.lit (0)),.int .i64 (.lit (0)),.int .i64 (.lit (0)),.int .i64 (.lit (0)),.int .i64 (.lit (0)),.int .i64 (.lit (0)),.int .i64 (.lit (0)),.int .i64 (.lit (0)),.int .i64 (.lit (0)),.int .i64 (.lit (0)),.int .i64 (.lit (0)),.int .i64 (.lit (0)),.int .i64 (.var 14),.int .i64 (.var 15),.int .i64 (.var 16),.int .i64 (.var 17),.int .i64 (.var 18),.int .i64 (.var 19),.int .i64 (.var 20),.int .i64 (.var 21),.int .i64 (.var 22),.int .i64 (.var 23),.int .i64 (.var 24),.int .i64 (.var 25),.int .i64 (.var 26),.int .i64 (.var 27),.int .i64 (.var 28),.int .i64 (.lit (0)),.int .i64 (.lit (0)),.int .i64 (.lit (0)),.int .i64 (.lit (0)),.int .i64 (.lit (0)),.int .i64 (.lit (0)),.int .i64 (.lit (0)),.int .i64 (.lit (0)),.int .i64 (.lit (0)),.int .i64 (.lit (0)),.int .i64 (.lit (0)),.int .i64 (.lit (0)),.jf 0 (.lit (0)) 19 (.lit (1)) (.var 42),.c_,.int .i64 (.lit (0)),.int .i64 (.lit (0)),.int .i64 (.lit (0)),.int .i64 (.lit (0)),.int .i64 (.lit (0)),.int .i64 (.lit (0)),.int .i64 (.lit (0)),.int .i64 (.lit (0)),.int .i64 (.lit (0))]),.cv (.one (.jf 2 (.lit (0)) 4 (.lit (1)) (.var 54)))] ⟨55,2,0,3,0,0,0⟩ [] (Vc.aB [x0,x1,x2,x3,x4,x5,x6,x7,x8,x9,aR,aN,bg,bo,bc,bt,a_,bG,bz,bC,bA,bD,bd,b_,cD,bX,eP,ei,cY,du,fT,dw,cT,ek,eH,cg,fW,fD,fX,gh,gw,iu,gV,iP,ma,oN,ov,qI,pD,pE,ou,xV,xW,xX,BB] [b0,b1] [] [p0,p1,p2]) (by kernel_rfl) Vc.zc (by kernel_rfl) (by kernel_rfl) h
theorem T4(p0 p1:Nat × Nat)(x0 x1 x2 x3 x4 x5 x6 x7 x8 x9 aR aN bg bo bc bt a_ bG bz bC bA bD bd b_ cD bX eP ei cY du fT dw cT ek eH cg fW fD fX gh gw iu gV iP ma oN ov qI pD pE ou xV xW xX:Int)(b0 b1:Bool)(w:World)(v:Value)(h :
 (Vq w 88 #[.agg #[.int .i64 0,.int .i64 0]] (.tuple #[.agg #[.int .i64 4294967296,.int .i64 4294967296],.agg #[.int .i64 0,.int .i64 0],.int .i64 0])) /\
 (∀(β:Nat->Nat) (w':World),Below w.heap.size w w'->((w.heap.size<=β 6/\w'.heap[β 6]? = some (.cells #[.int .i64 4294967296,.int .i64 4294967296,.int .i64 0,.int .i64 0] 25))/\(w.heap.size<=β 7/\w'.heap[β 7]? = some (.cells #[.int .i64 0,.int .i64 0,.int .i64 0,.int .i64 0] 25))/\True)->Calls Tryz.prog 89 #[.slice (some ⟨β 6,0,none⟩) 2 2,.slice (some ⟨β 7,0,none⟩) 2 2] w' (Vc.aw (.tuple #[.agg #[.int .i64 0,.int .i64 0],.int .i64 0]) w')) /\
 (Vq w 90 #[.agg #[.int .i64 0,.int .i64 0],.agg #[.int .i64 (-4294967296),.int .i64 4294967296]] (.tuple #[.agg #[.int .i64 0,.int .i64 0],.int .i64 0])) /\
 (∀(β:Nat->Nat) (w':World),Below w.heap.size w w'->((w.heap.size<=β 9/\w'.heap[β 9]? = some (.cells #[.int .i64 4294967296,.int .i64 4294967296,.int .i64 0,.int .i64 0] 25))/\(w.heap.size<=β 10/\w'.heap[β 10]? = some (.cells #[.int .i64 0,.int .i64 0,.int .i64 0,.int .i64 0] 25))/\True)->Calls Tryz.prog 89 #[.slice (some ⟨β 9,0,none⟩) 2 2,.slice (some ⟨β 10,0,none⟩) 2 2] w' (Vc.aw (.tuple #[.agg #[.int .i64 0,.int .i64 0],.int .i64 0]) w')) /\
 (Vq w 90 #[.agg #[.int .i64 0,.int .i64 0],.agg #[.int .i64 (-4294967296),.int .i64 4294967296]] (.tuple #[.agg #[.int .i64 0,.int .i64 0],.int .i64 0])) /\
 (∀(β:Nat->Nat) (w':World),Below w.heap.size w w'->((w.heap.size<=β 12/\w'.heap[β 12]? = some (.cells #[.int .i64 4294967296,.int .i64 4294967296,.int .i64 0,.int .i64 0] 25))/\(w.heap.size<=β 13/\w'.heap[β 13]? = some (.cells #[.int .i64 0,.int .i64 0,.int .i64 0,.int .i64 0] 25))/\True)->Calls Tryz.prog 89 #[.slice (some ⟨β 12,0,none⟩) 2 2,.slice (some ⟨β 13,0,none⟩) 2 2] w' (Vc.aw (.tuple #[.agg #[.int .i64 0,.int .i64 0],.int .i64 0]) w')) /\
 (Vq w 90 #[.agg #[.int .i64 0,.int .i64 0],.agg #[.int .i64 (-4294967296),.int .i64 4294967296]] (.tuple #[.agg #[.int .i64 0,.int .i64 0],.int .i64 0])) /\
 (.tuple #[.agg #[.int .i64 0,.int .i64 0,.int .i64 0,.int .i64 0,.int .i64 0,.int .i64 0],.int .i64 0]:Value)=v):Calls Tryz.prog 58 #[.agg #[.int .i64 0,.int .i64 0,.int .i64 0,.int .i64 0,.int .i64 0,.int .i64 0,.int .i64 0,.int .i64 0,.int .i64 0,.int .i64 0,.int .i64 0,.int .i64 0,.int .i64 0,.int .i64 0,.int .i64 bc,.int .i64 bt,.int .i64 a_,.int .i64 bG,.int .i64 bz,.int .i64 bC,.int .i64 bA,.int .i64 bD,.int .i64 bd,.int .i64 b_,.int .i64 cD,.int .i64 bX,.int .i64 eP,.int .i64 ei,.int .i64 cY,.int .i64 0,.int .i64 0,.int .i64 0,.int .i64 0,.int .i64 0,.int .i64 0,.int .i64 0,.int .i64 0,.int .i64 0,.int .i64 0,.int .i64 0,.int .i64 0,.slice (some ⟨p0.1,p0.2,none⟩) 1 gV.toNat,.slice none 0 0,.int .i64 0,.int .i64 0,.int .i64 0,.int .i64 0,.int .i64 0,.int .i64 0,.int .i64 0,.int .i64 0,.int .i64 0],.agg #[.int .i64 0,.int .i64 0]] w (Vc.aw v w) :=
 Vc.zb (ze [26] (by kernel_rfl)) [(700000000000000088,.ai [[(10,0),(10,0),(0,8589934592),(0,8589934592),(0,0),(0,0),(0,0)]] [] [] []),(700000000000000089,.ai [[(0,0),(0,0),(0,0)]] [] [] []),(700000000000000090,.ai [[(10,0),(10,0),(10,8589934591),(10,8589934592),(0,0),(0,0),(0,0)]] [] [] [])] [] 200 Tryz.func58 (b:=(Tryz.f58.body).getD .skip) (by kernel_rfl) [.cv (.agg [.int .i64 (.lit (0)),.int .i64 (.lit (0)),.int .i64 (.lit (0)),.int .i64 (.lit (0)),.int .i64 (.lit (0)),.int .i64 (.lit (0)),.int .i64 (.lit (0)),.int .i64 (.lit (0)),.int .i64 (.lit (0)),.int .i64 (.lit (0)),.int .i64 (.lit (0)),.int .i64 (.lit (0)),.int .i64 (.lit (0)),.int .i64 (.lit (0)),.int .i64 (.var 14),.int .i64 (.var 15),.int .i64 (.var 16),.int .i64 (.var 17),.int .i64 (.var 18),.int .i64 (.var 19),.int .i64 (.var 20),.int .i64 (.var 21),.int .i64 (.var 22),.int .i64 (.var 23),.int .i64 (.var 24),.int .i64 (.var 25),.int .i64 (.var 26),.int .i64 (.var 27),.int .i64 (.var 28),.int .i64 (.lit (0)),.int .i64 (.lit (0)),.int .i64 (.lit (0)),.int .i64 (.lit (0)),.int .i64 (.lit (0)),.int .i64 (.lit (0)),.int .i64 (.lit (0)),.int .i64 (.lit (0)),.int .i64 (.lit (0)),.int .i64 (.lit (0)),.int .i64 (.lit (0)),.int .i64 (.lit (0)),.jf 0 (.lit (0)) 19 (.lit (1)) (.var 42),.c_,.int .i64 (.lit (0)),.int .i64 (.lit (0)),.int .i64 (.lit (0)),.int .i64 (.lit (0)),.int .i64 (.lit (0)),.int .i64 (.lit (0)),.int .i64 (.lit (0)),.int .i64 (.lit (0)),.int .i64 (.lit (0))]),.cv (.agg [.int .i64 (.lit (0)),.int .i64 (.lit (0))])] ⟨54,2,0,2,0,0,0⟩ [] (Vc.aB [x0,x1,x2,x3,x4,x5,x6,x7,x8,x9,aR,aN,bg,bo,bc,bt,a_,bG,bz,bC,bA,bD,bd,b_,cD,bX,eP,ei,cY,du,fT,dw,cT,ek,eH,cg,fW,fD,fX,gh,gw,iu,gV,iP,ma,oN,ov,qI,pD,pE,ou,xV,xW,xX] [b0,b1] [] [p0,p1]) (by kernel_rfl) Vc.zc (by kernel_rfl) (by kernel_rfl) h
end Go.Proofs.YtnjpiipdgapakaaGreatDoor
