/-
 Functions of the program as the abstract machine reads them, and what is stated of them, checked by the kernel. No conditions.
-/
import Derived.WalkKit
import Derived.Test.YtnnbibnobmegpaaGreatSeatEnv
import Derived.Test.YtnnbibnobmegpaaGreatStG
set_option linter.unusedVariables false
set_option linter.unusedSimpArgs false
set_option linter.unnecessarySimpa false
set_option maxRecDepth 1000000
namespace Go.AM
open Go.Proofs Go.AM.X
noncomputable def GL:T AFn:=Al ([(5,a5),(21,a21),(7,a7),(35,a35),(36,a36),(38,a38),(39,a39),(6,a6),(52,Nj),(37,a37),(23,a23),(72,a72),(55,a55),(75,a75),(46,a46),(53,a53),(54,a54),(96,a96),(88,a88),(83,a83),(87,a87),(105,P7),(108,S5),(3,a3),(8,a8),(11,a11),(12,a12),(13,a13),(15,a15),(41,a41),(42,a42),(76,a76),(77,a77),(100,PC)]++gl)
theorem B4:All (GOk P) ([(5,a5),(21,a21),(7,a7),(35,a35),(36,a36),(38,a38),(39,a39),(6,a6),(52,Nj),(37,a37),(23,a23),(72,a72),(55,a55),(75,a75),(46,a46),(53,a53),(54,a54),(96,a96),(88,a88),(83,a83),(87,a87),(105,P7),(108,S5),(3,a3),(8,a8),(11,a11),(12,a12),(13,a13),(15,a15),(41,a41),(42,a42),(76,a76),(77,a77),(100,PC)]++gl):=⟨g5.g,g21.g,g7.g,g35.g,g36.g,g38.g,g39.g,g6.g,g52.g,g37.g,g23.g,g72.g,g55.g,g75.g,g46.g,g53.g,g54.g,g96.g,g88.g,g83.g,g87.g,g105.g,g108.g,g3.g,g8.g,g11.g,g12.g,g13.g,g15.g,g41.g,g42.g,g76.g,g77.g,g100.g,Kb⟩
theorem ZR:RA (C2 e1 (exec e1 100000) 4 [] St0)=true:=by kernel_rfl
noncomputable def eL1:Env:=⟨GL,.lf,Al [(106,AW)]⟩
theorem EY:EM P eL1:=⟨Bm (ol:=[]) rfl rfl rfl B4 trivial Bn,Bl⟩
theorem RN:OvOk P 22 cfgF.O:=Zk0 EY .k
noncomputable def eL2:Env:=⟨GL,Al [(22,cfgF.O)],Al [(106,AW)]⟩
theorem Zmr:EM P eL2:=⟨Bm rfl rfl rfl B4 ⟨RN,trivial⟩ Bn,Bl⟩
theorem Zhc:OvOk P 56 toldF.O:=Zd7 Zmr .k
noncomputable def eL3:Env:=⟨GL,Al [(56,toldF.O)],Al [(106,AW)]⟩
theorem RI:EM P eL3:=⟨Bm rfl rfl rfl B4 ⟨Zhc,trivial⟩ Bn,Bl⟩
theorem N5:OvOk P 51 stripesF.O:=Zo RI .k
theorem Ze3:OvOk P 97 oddF.O:=Zb8 EY
noncomputable def eL4:Env:=⟨GL,Al [(97,oddF.O)],Al [(106,AW)]⟩
theorem Zmq:EM P eL4:=⟨Bm rfl rfl rfl B4 ⟨Ze3,trivial⟩ Bn,Bl⟩
theorem Zfk:OvOk P 89 (MQ 97).O:=Zii Zmq 97 .k
theorem Zeh:OvOk P 98 slotsF.O:=Zbq EY
noncomputable def eL5:Env:=⟨GL,Al [(51,stripesF.O),(89,(MQ 97).O),(98,slotsF.O)],Al [(106,AW)]⟩
theorem Zmp:EM P eL5:=⟨Bm rfl rfl rfl B4 ⟨N5,Zfk,Zeh,trivial⟩ Bn,Bl⟩
theorem Ro:OvOk P 73 dchkF.O:=Zgi Zmp .k .k .k .k
theorem QE:OvOk P 95 DO:=Mh
theorem Zh6:OvOk P 93 nchkF.O:=Ze8 EY
theorem Zhs:OvOk P 67 EH:=OP
noncomputable def eL6:Env:=⟨GL,Al [(93,nchkF.O),(67,EH),(95,DO)],Al [(106,AW)]⟩
theorem Zmo:EM P eL6:=⟨Bm rfl rfl rfl B4 ⟨Zh6,Zhs,QE,trivial⟩ Bn,Bl⟩
theorem XB:OvOk P 65 nwF.O:=Zl4 Zmo .k .k .k .k .k .k
theorem Zig:OvOk P 86 If:=Xd
noncomputable def eL7:Env:=⟨GL,Al [(73,dchkF.O),(95,DO),(65,nwF.O),(86,If)],Al [(106,AW)]⟩
theorem Zmn:EM P eL7:=⟨Bm rfl rfl rfl B4 ⟨Ro,QE,XB,Zig,trivial⟩ Bn,Bl⟩
theorem Znd:OvOk P 49 blkF.O:=Zk4 Zmn .k .k .k .k .k .k .k
theorem NN:OvOk P 74 onF.O:=Zl2 EY .k .k
theorem Zeb:OvOk P 62 EZ:=Ma
noncomputable def eL8:Env:=⟨GL,Al [(62,EZ),(65,nwF.O)],Al [(106,AW)]⟩
theorem Zmm:EM P eL8:=⟨Bm rfl rfl rfl B4 ⟨Zeb,XB,trivial⟩ Bn,Bl⟩
theorem XC:OvOk P 26 ndF.O:=Zl5 Zmm .k .k .k .k
theorem TS:OvOk P 58 oddF.O:=ZW EY
noncomputable def eL9:Env:=⟨GL,Al [(58,oddF.O)],Al [(106,AW)]⟩
theorem Xh:EM P eL9:=⟨Bm rfl rfl rfl B4 ⟨TS,trivial⟩ Bn,Bl⟩
theorem Zj0:OvOk P 89 IX:=Zj1 Xh .k .k
theorem Zha:OvOk P 71 JA:=Zd3 Xh .k .k
noncomputable def eL10:Env:=⟨GL,Al [(89,IX),(71,JA)],Al [(106,AW)]⟩
theorem Zjy:EM P eL10:=⟨Bm rfl rfl rfl B4 ⟨Zj0,Zha,trivial⟩ Bn,Bl⟩
theorem M0:OvOk P 25 dskF.O:=Zj2 Zjy .k .k .k .k
noncomputable def eL11:Env:=⟨GL,Al [(25,dskF.O)],Al [(106,AW)]⟩
theorem O8:EM P eL11:=⟨Bm rfl rfl rfl B4 ⟨M0,trivial⟩ Bn,Bl⟩
theorem Zj4:OvOk P 78 drdF.O:=Zj8 O8 .k .k .k .k .k .k
theorem Zj3:OvOk P 78 JT:=Zj7 O8 .k .k .k .k .k .k
theorem Ra:OvOk P 52 needF.O:=Ze7 RI .k
theorem Zfl:OvOk P 54 (CV Ik KB):=Zct EY .k
theorem Zgc:OvOk P 88 (CV Ik Pd):=Zc9 EY
noncomputable def eL12:Env:=⟨GL,Al [(52,needF.O),(88,(CV Ik Pd))],Al [(106,AW)]⟩
theorem Zjx:EM P eL12:=⟨Bm rfl rfl rfl B4 ⟨Ra,Zgc,trivial⟩ Bn,Bl⟩
theorem Vz:OvOk P 55 (CV Gi (fun r=>.bool (BZ r))):=Zeq Zjx .k .k
noncomputable def eL13:Env:=⟨GL,Al [(51,stripesF.O),(52,needF.O),(54,(CV Ik KB)),(55,(CV Gi (fun r=>.bool (BZ r))))],Al [(106,AW)]⟩
theorem Zjw:EM P eL13:=⟨Bm rfl rfl rfl B4 ⟨N5,Ra,Zfl,Vz,trivial⟩ Bn,Bl⟩
theorem Zes:OvOk P 23 (CV Gi (fun r=>.bool (Ee r))):=Zb2 Zjw .k .k .k .k .k
noncomputable def eL14:Env:=⟨GL,Al [(22,cfgF.O),(23,(CV Gi (fun r=>.bool (Ee r))))],Al [(106,AW)]⟩
theorem Zjv:EM P eL14:=⟨Bm rfl rfl rfl B4 ⟨RN,Zes,trivial⟩ Bn,Bl⟩
theorem VP:OvOk P 7 lchkF.O:=Zfi Zjv .k .k
noncomputable def eL15:Env:=⟨GL,Al [(22,cfgF.O),(51,stripesF.O),(52,needF.O)],Al [(106,AW)]⟩
theorem Zju:EM P eL15:=⟨Bm rfl rfl rfl B4 ⟨RN,N5,Ra,trivial⟩ Bn,Bl⟩
theorem Zfe:OvOk P 7 lchkX.O:=Zfg Zju .k .k .k .k .k
theorem Za5:OvOk P 4 M9:=Zd6 Zn3 g4.b ZR
theorem Ziq:OvOk P 5 grt4F.O:=Zfr EY
theorem Zmh:OvOk P 21 grtF.O:=Zip EY
noncomputable def eL16:Env:=⟨GL,Al [(21,grtF.O)],Al [(106,AW)]⟩
theorem Zjt:EM P eL16:=⟨Bm rfl rfl rfl B4 ⟨Zmh,trivial⟩ Bn,Bl⟩
theorem Zh9:OvOk P 6 longF.O:=Zfc Zjt .k
theorem Zff:OvOk P 7 (Ej Lc):=Zfh VP Zfe
theorem Qg:OvOk P 24 journalF.O:=Z3 RI .k
noncomputable def eL17:Env:=⟨GL,Al [(24,journalF.O),(25,dskF.O),(26,ndF.O)],Al [(106,AW)]⟩
theorem Zjs:EM P eL17:=⟨Bm rfl rfl rfl B4 ⟨Qg,M0,XC,trivial⟩ Bn,Bl⟩
theorem Ze2:OvOk P 8 (relS Lj):=Zl3 Zjs ⟨.k,.k,.k⟩
theorem WJ:OvOk P 9 wrF.O:=X2
theorem Zlv:OvOk P 69 plcF.O:=Zht O8 .k
noncomputable def eL18:Env:=⟨GL,Al [(69,plcF.O),(58,oddF.O)],Al [(106,AW)]⟩
theorem Zjr:EM P eL18:=⟨Bm rfl rfl rfl B4 ⟨Zlv,TS,trivial⟩ Bn,Bl⟩
theorem WH:OvOk P 30 wrtF.O:=Zg7 Zjr .k .k
theorem Oo:OvOk P 31 Cu:=Zlm EY .k
theorem Zd4:OvOk P 71 Ii:=Zkf EY .k
noncomputable def eL19:Env:=⟨GL,Al [(71,Ii)],Al [(106,AW)]⟩
theorem Zjq:EM P eL19:=⟨Bm rfl rfl rfl B4 ⟨Zd4,trivial⟩ Bn,Bl⟩
theorem Zmz:OvOk P 33 IY:=Zke Zjq .k .k
noncomputable def eL20:Env:=⟨GL,Al [(30,wrtF.O),(31,Cu),(33,IY)],Al [(106,AW)]⟩
theorem Zjp:EM P eL20:=⟨Bm rfl rfl rfl B4 ⟨WH,Oo,Zmz,trivial⟩ Bn,Bl⟩
theorem Xg:OvOk P 10 fuaF.O:=Zis Zjp .k .k .k .k .k
noncomputable def eL21:Env:=⟨GL,Al [(7,lchkF.O)],Al [(106,AW)]⟩
theorem Zjo:EM P eL21:=⟨Bm rfl rfl rfl B4 ⟨VP,trivial⟩ Bn,Bl⟩
theorem Pn:OvOk P 72 FD:=Zl1 Zjo .k .k .k
noncomputable def eL22:Env:=⟨GL,Al [(72,FD),(73,dchkF.O),(49,blkF.O),(55,(CV Gi (fun r=>.bool (BZ r)))),(74,onF.O)],Al [(106,AW)]⟩
theorem Zjn:EM P eL22:=⟨Bm rfl rfl rfl B4 ⟨Pn,Ro,Znd,Vz,NN,trivial⟩ Bn,Bl⟩
theorem Zib:OvOk P 35 addF.O:=Zle Zjn .k .k .k .k .k
noncomputable def eL23:Env:=⟨GL,Al [(72,FD)],Al [(106,AW)]⟩
theorem Zjm:EM P eL23:=⟨Bm rfl rfl rfl B4 ⟨Pn,trivial⟩ Bn,Bl⟩
theorem Zfx:OvOk P 36 flushF.O:=Zc3 Zjm .k
noncomputable def eL24:Env:=⟨GL,Al [(25,dskF.O),(31,Cu)],Al [(106,AW)]⟩
theorem Zjl:EM P eL24:=⟨Bm rfl rfl rfl B4 ⟨M0,Oo,trivial⟩ Bn,Bl⟩
theorem Zmj:OvOk P 37 fluF.O:=Zix Zjl .k .k
noncomputable def eL25:Env:=⟨GL,Al [(72,FD),(51,stripesF.O)],Al [(106,AW)]⟩
theorem Zjk:EM P eL25:=⟨Bm rfl rfl rfl B4 ⟨Pn,N5,trivial⟩ Bn,Bl⟩
theorem Zij:OvOk P 38 homeFm.O:=Zcu Zjk .k .k
noncomputable def eL26:Env:=⟨GL,Al [(72,FD),(74,onF.O),(9,wrF.O)],Al [(106,AW)]⟩
theorem Zjj:EM P eL26:=⟨Bm rfl rfl rfl B4 ⟨Pn,NN,WJ,trivial⟩ Bn,Bl⟩
theorem Zh7:OvOk P 39 moveF.O:=Zfb Zjj .k .k .k .k
noncomputable def eL27:Env:=⟨GL,Al [(30,wrtF.O),(31,Cu)],Al [(106,AW)]⟩
theorem Zji:EM P eL27:=⟨Bm rfl rfl rfl B4 ⟨WH,Oo,trivial⟩ Bn,Bl⟩
theorem Zms:OvOk P 40 dwF.O:=Zmt Zji .k .k .k .k
noncomputable def eL28:Env:=⟨GL,Al [(35,addF.O),(36,flushF.O),(37,fluF.O),(38,homeFm.O),(39,moveF.O),(40,dwF.O),(10,fuaF.O)],Al [(106,AW)]⟩
theorem Zjh:EM P eL28:=⟨Bm rfl rfl rfl B4 ⟨Zib,Zfx,Zmj,Zij,Zh7,Zms,Xg,trivial⟩ Bn,Bl⟩
theorem Zhu:OvOk P 11 (relS Lb):=Zhv Zjh ⟨.k,.k,.k,.k,.k,.k,.k⟩
theorem WG:OvOk P 12 (relS IP):=Zli O8 ⟨.k,.k,.k,rfl,by kernel_rfl,.k⟩
noncomputable def eL29:Env:=⟨GL,Al [(12,(relS IP)),(31,Cu)],Al [(106,AW)]⟩
theorem Zjg:EM P eL29:=⟨Bm rfl rfl rfl B4 ⟨WG,Oo,trivial⟩ Bn,Bl⟩
theorem Zgk:OvOk P 13 (relS M2):=Zgl Zjg .k .k .k
theorem Wh:OvOk P 78 DU:=Zj5 Zj4 Zj3
theorem Zew:OvOk P 79 HS:=VA
noncomputable def eL30:Env:=⟨GL,Al [(24,journalF.O),(25,dskF.O),(78,DU),(79,HS)],Al [(106,AW)]⟩
theorem Zjf:EM P eL30:=⟨Bm rfl rfl rfl B4 ⟨Qg,M0,Wh,Zew,trivial⟩ Bn,Bl⟩
theorem Zmi:OvOk P 43 fstF.O:=Ziu Zjf .k .k .k .k
noncomputable def eL31:Env:=⟨GL,Al [(24,journalF.O),(25,dskF.O)],Al [(106,AW)]⟩
theorem Zje:EM P eL31:=⟨Bm rfl rfl rfl B4 ⟨Qg,M0,trivial⟩ Bn,Bl⟩
theorem Znf:OvOk P 103 askF.O:=Zk9 Zje .k .k .k
noncomputable def eL32:Env:=⟨GL,Al [(103,askF.O),(73,dchkF.O),(74,onF.O),(78,DU),(26,ndF.O),(95,DO)],Al [(106,AW)]⟩
theorem Zjd:EM P eL32:=⟨Bm rfl rfl rfl B4 ⟨Znf,Ro,NN,Wh,XC,QE,trivial⟩ Bn,Bl⟩
theorem Zn4:OvOk P 82 drF.O:=Zmy Zjd .k .k .k .k .k .k .k .k
noncomputable def eL33:Env:=⟨GL,Al [(43,fstF.O),(74,onF.O),(82,drF.O)],Al [(106,AW)]⟩
theorem Zjc:EM P eL33:=⟨Bm rfl rfl rfl B4 ⟨Zmi,NN,Zn4,trivial⟩ Bn,Bl⟩
theorem Zni:OvOk P 14 allF.O:=Zld Zjc .k .k .k .k .k
theorem SS:OvOk P 45 wholeF.O:=Zbj EY
theorem Zg9:OvOk P 105 withF.O:=Zd2 EY
noncomputable def eL34:Env:=⟨GL,Al [(105,withF.O)],Al [(106,AW)]⟩
theorem Zjb:EM P eL34:=⟨Bm rfl rfl rfl B4 ⟨Zg9,trivial⟩ Bn,Bl⟩
theorem Zey:OvOk P 83 overRF.O:=Zb7 Zjb .k
noncomputable def eL35:Env:=⟨GL,Al [(83,overRF.O)],Al [(106,AW)]⟩
theorem Zja:EM P eL35:=⟨Bm rfl rfl rfl B4 ⟨Zey,trivial⟩ Bn,Bl⟩
theorem Zhd:OvOk P 46 sumRF.O:=Zed Zja .k
noncomputable def eL36:Env:=⟨GL,Al [(45,wholeF.O),(46,sumRF.O)],Al [(106,AW)]⟩
theorem Zi9:EM P eL36:=⟨Bm rfl rfl rfl B4 ⟨SS,Zhd,trivial⟩ Bn,Bl⟩
theorem Zgq:OvOk P 15 (relS M4):=Zgr Zi9 .k .k
noncomputable def eL37:Env:=⟨GL,Al [(45,wholeF.O)],Al [(106,AW)]⟩
theorem Zi8:EM P eL37:=⟨Bm rfl rfl rfl B4 ⟨SS,trivial⟩ Bn,Bl⟩
theorem Zbv:OvOk P 47 same2F.O:=Zbw Zi8 .k
noncomputable def eL38:Env:=⟨GL,Al [(47,same2F.O)],Al [(106,AW)]⟩
theorem Zi7:EM P eL38:=⟨Bm rfl rfl rfl B4 ⟨Zbv,trivial⟩ Bn,Bl⟩
theorem Zbx:OvOk P 16 sameF.O:=Zep Zi7 .k
noncomputable def Sx:Env:=⟨GL,Al [(4,M9),(5,grt4F.O),(6,longF.O),(7,(Ej Lc)),(8,(relS Lj)),(9,wrF.O),(10,fuaF.O),(11,(relS Lb)),(12,(relS IP)),(13,(relS M2)),(14,allF.O),(15,(relS M4)),(16,sameF.O)],Al [(106,AW)]⟩
theorem Zi6:EM P Sx:=⟨Bm rfl rfl rfl B4 ⟨Za5,Ziq,Zh9,Zff,Ze2,WJ,Xg,Zhu,WG,Zgk,Zni,Zgq,Zbx,trivial⟩ Bn,Bl⟩
theorem Zcr:SAIn Sx:=⟨.k,.k,.k,.k,.k,.k,.k,.k,.k,.k,.k,.k,.k⟩
theorem scanAll_C (c:Cfg) (j:DK) (ag sq tl us:Int) (L:List Lv) (v ov kv:AV) (ops:List Op) (ks:List Bool) (hc:c.ok) (hj:j.any) (h1:AK ag) (h2:AK sq) (h3:Aj tl) (h4:Aj us) (hv:LSl L v) (hL:∀ x ∈ L,x.ok) (ho:OL.ok ⟨ov,ops⟩) (hk:Sl 1 ks.length (BK ks) kv):
 C P 3 [c.v,j.v,.agg [.int .u32 ag,.int .u32 sq,.int .i64 tl,.int .i64 us,v],ov,kv] St0 (fun u _=>u=.bool true):=
 C.of_W g3.f g3.c (YS Sx Zi6 Zcr c hc j hj ag sq tl us L v hv h1 h2 h3 h4 hL ov ops ho kv ks hk)
end Go.AM
