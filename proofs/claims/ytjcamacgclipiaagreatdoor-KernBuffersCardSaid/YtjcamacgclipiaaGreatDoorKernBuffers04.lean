/- Part of the proof of: The law KernBuffers returns true for every input, and leaves its arguments as they were. -/
import Derived.Test.YtjcamacgclipiaaGreatDoorKernBuffers03
set_option linter.all false
set_option maxRecDepth 20000
set_option maxHeartbeats 4000000
namespace Go.Proofs.YtjcamacgclipiaaGreatDoor
open Go.Proofs.Tryz
open Go.IntKind (i64 u64)
section
open Go Mb
structure sX where
 fl:Sl
def sX.C (x:sX):List Value:=[sv x.fl]
structure nL where
 frefs:Sl
def nL.C (x:nL):List Value:=[sv x.frefs]
structure nO where
 fl:Sl
def nO.C (x:nO):List Value:=[sv x.fl]
structure ao where
 fRa:Int
 fHa:Int
 fUa:Int
def ao.C (x:ao):List Value:=[.int .i64 x.fRa,.int .i64 x.fHa,.int .i64 x.fUa]
structure fw where
 fs:ao
 fm:Ptr
 ftables:Sl
 fpool:Ptr
 fcaps:Ptr
def fw.C (x:fw):List Value:=[.int .i64 x.fs.fRa,.int .i64 x.fs.fHa,.int .i64 x.fs.fUa,pv x.fm,sv x.ftables,pv x.fpool,pv x.fcaps]
structure nM where
 fl:Sl
def nM.C (x:nM):List Value:=[sv x.fl]
structure iY where
 fowner:Sl
 fheard:Sl
def iY.C (x:iY):List Value:=[sv x.fowner,sv x.fheard]
structure an where
 fBa:Int
 fPa:Int
 fEa:Int
 fCa:Int
def an.C (x:an):List Value:=[.int .i64 x.fBa,.int .i64 x.fPa,.int .i64 x.fEa,.int .i64 x.fCa]
structure eI where
 fp:Ptr
 fenvs:Int
 ftlbs:Sl
 fboxes:Ptr
 fepochs:Ptr
 fcalls:Sl
 fevents:Sl
 fnow:Int
def eI.C (x:eI):List Value:=[pv x.fp,.int .i64 x.fenvs,sv x.ftlbs,pv x.fboxes,pv x.fepochs,sv x.fcalls,sv x.fevents,.int .i64 x.fnow]
structure aa where
 e0:Int
 e1:Int
 e2:Int
 e3:Int
 e4:Int
def aa.C (x:aa):List Value:=[.int .u64 x.e0,.int .u64 x.e1,.int .u64 x.e2,.int .u64 x.e3,.int .u64 x.e4]
structure ak where
 fEa:Int
 fDa:Int
 fCa:Int
def ak.C (x:ak):List Value:=[.int .i64 x.fEa,.int .i64 x.fDa,.int .i64 x.fCa]
structure aH where
 fEa:Int
 fCa:Int
 fBa:Int
 fDa:Int
def aH.C (x:aH):List Value:=[.int .i64 x.fEa,.int .i64 x.fCa,.int .i64 x.fBa,.int .i64 x.fDa]
structure bw where
 fl:an
 fwhen:Int
def bw.C (x:bw):List Value:=[.int .i64 x.fl.fBa,.int .i64 x.fl.fPa,.int .i64 x.fl.fEa,.int .i64 x.fl.fCa,.int .i64 x.fwhen]
structure ad where
 fWa:Int
 fVal:Int
def ad.C (x:ad):List Value:=[.int .i64 x.fWa,.int .u64 x.fVal]
structure jC where
 e0:bw
 e1:bw
def jC.C (x:jC):List Value:=[.int .i64 x.e0.fl.fBa,.int .i64 x.e0.fl.fPa,.int .i64 x.e0.fl.fEa,.int .i64 x.e0.fl.fCa,.int .i64 x.e0.fwhen,.int .i64 x.e1.fl.fBa,.int .i64 x.e1.fl.fPa,.int .i64 x.e1.fl.fEa,.int .i64 x.e1.fl.fCa,.int .i64 x.e1.fwhen]
structure au where
 fBa:Int
 fDa:Int
def au.C (x:au):List Value:=[.int .i64 x.fBa,.int .i64 x.fDa]
structure ax where
 fOa:Int
 fBa:Int
 fJa:aa
 fTa:Int
 fIa:Int
 fXa:Int
 fCb:ad
 fAb:an
def ax.C (x:ax):List Value:=[.int .i64 x.fOa,.int .i64 x.fBa,.int .u64 x.fJa.e0,.int .u64 x.fJa.e1,.int .u64 x.fJa.e2,.int .u64 x.fJa.e3,.int .u64 x.fJa.e4,.int .i64 x.fTa,.int .i64 x.fIa,.int .i64 x.fXa,.int .i64 x.fCb.fWa,.int .u64 x.fCb.fVal,.int .i64 x.fAb.fBa,.int .i64 x.fAb.fPa,.int .i64 x.fAb.fEa,.int .i64 x.fAb.fCa]
structure lA where
 fat:Int
 fFa:Int
 fc:aa
 fQa:Bool
 fBb:Int
def lA.C (x:lA):List Value:=[.int .i64 x.fat,.int .i64 x.fFa,.int .u64 x.fc.e0,.int .u64 x.fc.e1,.int .u64 x.fc.e2,.int .u64 x.fc.e3,.int .u64 x.fc.e4,.bool x.fQa,.int .u64 x.fBb]
structure ke where
 fes:Sl
 fs:ao
 fk:Ptr
def ke.C (x:ke):List Value:=[sv x.fes,.int .i64 x.fs.fRa,.int .i64 x.fs.fHa,.int .i64 x.fs.fUa,pv x.fk]
structure bJ where
 fFb:Int
 fOa:Int
 fBa:Int
 fJa:aa
 fSet:Int
 fWay:Int
def bJ.C (x:bJ):List Value:=[.int .i64 x.fFb,.int .i64 x.fOa,.int .i64 x.fBa,.int .u64 x.fJa.e0,.int .u64 x.fJa.e1,.int .u64 x.fJa.e2,.int .u64 x.fJa.e3,.int .u64 x.fJa.e4,.int .i64 x.fSet,.int .i64 x.fWay]
structure bh where
 fZa:Int
 fBa:Int
 fJa:aa
 fWa:Value
def bh.C (x:bh):List Value:=[.int .i64 x.fZa,.int .i64 x.fBa,.int .u64 x.fJa.e0,.int .u64 x.fJa.e1,.int .u64 x.fJa.e2,.int .u64 x.fJa.e3,.int .u64 x.fJa.e4,x.fWa]
structure aF where
 ftyp_:Ptr
 fptr:Ptr
 fflag:Int
def aF.C (x:aF):List Value:=[pv x.ftyp_,pv x.fptr,.int .u64 x.fflag]
structure nN where
 fv:Int
 fn:Int
def nN.C (x:nN):List Value:=[.int .u64 x.fv,.int .i64 x.fn]
structure ka where
 fdrawn:Ptr
 fpassed:Ptr
def ka.C (x:ka):List Value:=[pv x.fdrawn,pv x.fpassed]
structure aq where
 fIs:Bool
 fEa:Int
 fCa:Int
 fBa:Int
 fDa:Int
def aq.C (x:aq):List Value:=[.bool x.fIs,.int .i64 x.fEa,.int .i64 x.fCa,.int .i64 x.fBa,.int .i64 x.fDa]
structure ae where
 fBa:Int
 fDa:Int
def ae.C (x:ae):List Value:=[.int .i64 x.fBa,.int .i64 x.fDa]
structure qA where
 e0:Ptr
 e1:Ptr
def qA.C (x:qA):List Value:=[pv x.e0,pv x.e1]
structure T_2_api_Call where
 e0:Sl
 e1:Sl
def T_2_api_Call.C (x:T_2_api_Call):List Value:=[sv x.e0,sv x.e1]
structure T_2_int where
 e0:Int
 e1:Int
def T_2_int.C (x:T_2_int):List Value:=[.int .i64 x.e0,.int .i64 x.e1]
structure sn where
 fBa:Int
 fJa:aa
def sn.C (x:sn):List Value:=[.int .i64 x.fBa,.int .u64 x.fJa.e0,.int .u64 x.fJa.e1,.int .u64 x.fJa.e2,.int .u64 x.fJa.e3,.int .u64 x.fJa.e4]
def tY (r:Ptr):Value:=(pv r)
theorem build_214  : ∀ w,(Instr.build 214 #[]).run prog w = .ok (.agg (sX.C (⟨(⟨none,0,0,none⟩:Sl)⟩:sX)).toArray) w:=fun _=>by kernel_rfl
theorem mixed:prog.follows .mixedOrders = true:=by kernel_rfl
instance:FlC prog 214 0 0:=cz 1 underlying214
abbrev aG:Nat:=74
def bi (r:Sl):Value:=(sv r)
abbrev pR:Nat:=169
def R_SSuint64 (r:Sl):Value:=(sv r)
instance:InC prog 169 1:=tP
instance:ScC prog 169:=rh underlying169
abbrev lC:Nat:=214
instance:BuC prog 214 [] (fun
 | []=>some (.agg ⟨[.slice none 0 0]⟩)
 | _=>none):=ly fun vs v e w=>by
 split at e <;> cases e
 kernel_rfl
instance mixedC:MxC prog:=⟨by kernel_rfl⟩
abbrev wK:Nat:=103
def sN (r:Ptr):Value:=(pv r)
abbrev aj:Nat:=59
def av (r:Sl):Value:=(sv r)
theorem build_216_0 (y0:Sl):∀ w,(Instr.build 216 #[(0,(sv y0))]).run prog w = .ok (.agg (nL.C (⟨y0⟩:nL)).toArray) w:=fun _=>by kernel_rfl
abbrev qF:Nat:=216
instance:BuC prog 216 [0] (fun
 | [.slice y0p y0n y0c]=>some (.agg ⟨[.slice y0p y0n y0c]⟩)
 | _=>none):=ly fun vs v e w=>by
 split at e <;> cases e
 kernel_rfl
abbrev xW:Nat:=104
def sP (r:Ptr):Value:=(pv r)
abbrev t_S_8_api_Cap:Nat:=217
def R_S_8_api_Cap (r:Sl):Value:=(sv r)
theorem build_219_0 (y0:Sl):∀ w,(Instr.build 219 #[(0,(sv y0))]).run prog w = .ok (.agg (nO.C (⟨y0⟩:nO)).toArray) w:=fun _=>by kernel_rfl
abbrev nt:Nat:=219
instance:BuC prog 219 [0] (fun
 | [.slice y0p y0n y0c]=>some (.agg ⟨[.slice y0p y0n y0c]⟩)
 | _=>none):=ly fun vs v e w=>by
 split at e <;> cases e
 kernel_rfl
abbrev ya:Nat:=105
def gF (r:Ptr):Value:=(pv r)
abbrev jX:Nat:=221
abbrev kU:Nat:=106
def cM (r:Ptr):Value:=(pv r)
instance:FlC prog 23 0 0:=cz 1 underlying23
instance eK:ScC prog 3:=rh underlying3
instance:FlC prog 23 1 1:=cz 1 underlying23
instance:FlC prog 23 2 2:=cz 1 underlying23
instance ag_23:AgC prog 23 3:=ag_i underlying23
theorem build_166_0_1_3_4 (y0:ao) (y1:Ptr) (y3:Ptr) (y4:Ptr):∀ w,(Instr.build 166 #[(0,(.agg (ao.C y0).toArray)),(1,(pv y1)),(3,(pv y3)),(4,(pv y4))]).run prog w = .ok (.agg (fw.C (⟨y0,y1,(⟨none,0,0,none⟩:Sl),y3,y4⟩:fw)).toArray) w:=fun _=>by kernel_rfl
instance:FlC prog 166 2 4:=cz 1 underlying166
abbrev dK:Nat:=164
def mV (r:Sl):Value:=(sv r)
instance:InC prog 164 1:=tP
instance:EnC prog 106:=aN func106
instance:ScC prog 164:=rh underlying164
abbrev bz:Nat:=166
instance:EnC prog 105:=aN func105
instance:EnC prog 104:=aN func104
instance:EnC prog 103:=aN func103
instance:BuC prog 166 [0,1,3,4] (fun
 | [.agg ⟨[.int .i64 y0_0,.int .i64 y0_1,.int .i64 y0_2]⟩,.pointer y1,.pointer y3,.pointer y4]=>some (.agg ⟨[.int .i64 y0_0,.int .i64 y0_1,.int .i64 y0_2,.pointer y1,.slice none 0 0,.pointer y3,.pointer y4]⟩)
 | _=>none):=ly fun vs v e w=>by
 split at e <;> cases e
 kernel_rfl
abbrev nC:Nat:=50
def oR (r:Ptr):Value:=(pv r)
theorem build_171_0 (y0:Sl):∀ w,(Instr.build 171 #[(0,(sv y0))]).run prog w = .ok (.agg (nM.C (⟨y0⟩:nM)).toArray) w:=fun _=>by kernel_rfl
abbrev kK:Nat:=171
instance:BuC prog 171 [0] (fun
 | [.slice y0p y0n y0c]=>some (.agg ⟨[.slice y0p y0n y0c]⟩)
 | _=>none):=ly fun vs v e w=>by
 split at e <;> cases e
 kernel_rfl
abbrev tH:Nat:=51
def gV (r:Ptr):Value:=(pv r)
theorem build_173_1 (y1:Sl):∀ w,(Instr.build 173 #[(1,(sv y1))]).run prog w = .ok (.agg (iY.C (⟨(⟨none,0,0,none⟩:Sl),y1⟩:iY)).toArray) w:=fun _=>by kernel_rfl
abbrev gn:Nat:=173
instance:BuC prog 173 [1] (fun
 | [.slice y1p y1n y1c]=>some (.agg ⟨[.slice none 0 0,.slice y1p y1n y1c]⟩)
 | _=>none):=ly fun vs v e w=>by
 split at e <;> cases e
 kernel_rfl
abbrev nF:Nat:=52
def R_api_Line (r:an):Value:=(.agg (an.C r).toArray)
instance:ZeC prog 66 (.agg (an.C (⟨0,0,0,0⟩:an)).toArray):=ze_i
theorem build_66_0 (y0:Int):∀ w,(Instr.build 66 #[(0,(.int .i64 y0))]).run prog w = .ok (.agg (an.C (⟨y0,0,0,0⟩:an)).toArray) w:=fun _=>by kernel_rfl
instance:AgC prog 66 4:=ag_i underlying66
instance:InC prog 66 4:=tP
instance:BuC prog 66 [0] (fun
 | [.int .i64 y0]=>some (.agg ⟨[.int .i64 y0,.int .i64 0,.int .i64 0,.int .i64 0]⟩)
 | _=>none):=ly fun vs v e w=>by
 split at e <;> cases e
 kernel_rfl
abbrev n_tlb_empty:Nat:=153
def R_ (_:Unit):Value:=.tuple #[]
instance:FlC prog 179 0 0:=cz 40 underlying179
instance:ArC prog 177 4 176 10:=ar_i underlying177
instance:ArC prog 176 2 175 5:=ar_i underlying176
instance:FlC prog 175 0 0:=cz 4 underlying175
instance:EnC prog 153:=aN func153
instance:UnC prog 113 (.pointer 179):=⟨underlying113⟩
abbrev rB:Nat:=107
def fG (r:Ptr):Value:=(pv r)
abbrev pP:Nat:=179
instance:EnC prog 107:=aN func107
abbrev gS:Nat:=53
def sO (r:Ptr):Value:=(pv r)
abbrev mH:Nat:=109
def qB (r:Sl):Value:=(sv r)
theorem build_112_0_1_3_4_5 (y0:Ptr) (y1:Int) (y3:Ptr) (y4:Ptr) (y5:Sl):∀ w,(Instr.build 112 #[(0,(pv y0)),(1,(.int .i64 y1)),(3,(pv y3)),(4,(pv y4)),(5,(sv y5))]).run prog w = .ok (.agg (eI.C (⟨y0,y1,(⟨none,0,0,none⟩:Sl),y3,y4,y5,(⟨none,0,0,none⟩:Sl),0⟩:eI)).toArray) w:=fun _=>by kernel_rfl
instance:FlC prog 112 2 2:=cz 1 underlying112
abbrev aZ:Nat:=110
def cX (r:Sl):Value:=(sv r)
instance:InC prog 110 1:=tP
instance:EnC prog 53:=aN func53
instance:ScC prog 110:=rh underlying110
abbrev bj:Nat:=112
instance:EnC prog 52:=aN func52
instance:EnC prog 51:=aN func51
instance:EnC prog 50:=aN func50
instance:UnC prog 103 (.pointer 166):=⟨underlying103⟩
instance:BuC prog 112 [0,1,3,4,5] (fun
 | [.pointer y0,.int .i64 y1,.pointer y3,.pointer y4,.slice y5p y5n y5c]=>some (.agg ⟨[.pointer y0,.int .i64 y1,.slice none 0 0,.pointer y3,.pointer y4,.slice y5p y5n y5c,.slice none 0 0,.int .i64 0]⟩)
 | _=>none):=ly fun vs v e w=>by
 split at e <;> cases e
 kernel_rfl
abbrev xX:Nat:=14
def dv (r:Sl):Value:=(sv r)
abbrev da:Nat:=39
instance:UnC prog 39 (.slice 68):=⟨underlying39⟩
abbrev dN:Nat:=59
instance:FlC prog 112 6 6:=cz 1 underlying112
instance:EnC prog 59:=aN func59
instance:ScC prog 39:=rh underlying39
instance:UnC prog 28 (.pointer 112):=⟨underlying28⟩
abbrev eS:Nat:=18
def ai (r:Bool):Value:=(.bool r)
instance:FlC prog 112 5 5:=cz 1 underlying112
instance:ScC prog 109:=rh underlying109
instance:UnC prog 109 (.slice 132):=⟨underlying109⟩
abbrev fj:Nat:=64
instance:SlC prog 109 132 1:=sl_i underlying109
instance:ScC prog 132:=rh underlying132
instance:EnC prog 64:=aN func64
instance:UnC prog 132 (.pointer 134):=⟨underlying132⟩
abbrev eU:Nat:=35
def aR (r:Int × Bool):Value:=.tuple #[(.int .i64 r.1),(.bool r.2)]
instance:ArC prog 32 5 30 1:=ar_i underlying32
instance sc_30:ScC prog 30:=rh underlying30
instance:UnC prog 30 (.int .u64):=⟨underlying30⟩
instance:UnC prog 3 (.int .i64):=⟨underlying3⟩
abbrev n_word_Kind:Nat:=78
abbrev n_word_User:Nat:=79
abbrev sE:Nat:=159
def aa.get (x:aa) (i:Int):Int:=match i.toNat with | 0=>x.e0 | 1=>x.e1 | 2=>x.e2 | 3=>x.e3 | 4=>x.e4 | _=>x.e4
theorem at_32 (x:aa) (i:Int) (h:0 <= i/\i < 5):(aa.C x)[0 + i.toNat * 1]? = some (.int .u64 (aa.get x i)):=by
 obtain ⟨n,rfl⟩:=Int.eq_ofNat_of_zero_le h.1;have h2:n < 5:=by omega
 rcases n with _ | (_ | (_ | (_ | (_ | _)))) <;> first | rfl | omega
def aa.D:List Value->Option aa | [.int .u64 y_0,.int .u64 y_1,.int .u64 y_2,.int .u64 y_3,.int .u64 y_4]=>some (⟨y_0,y_1,y_2,y_3,y_4⟩:aa) | _=>none
theorem dec_32:∀ l x,aa.D l = some x->l = aa.C x:=by
 intro l x e;unfold aa.D at e;split at e <;> cases e
 rfl
instance:GtC prog 32 5 aa.C aa.D (fun x i=>.int .u64 (aa.get x i)):=⟨at_32,dec_32⟩
abbrev mZ:Nat:=165
abbrev vt:Nat:=196
instance:AgC prog 32 5:=ag_i underlying32
instance:EnC prog 165:=aN func165
instance:EnC prog 196:=aN func196
abbrev n_word_fits:Nat:=160
def aC (r:Int):Value:=(.int .i64 r)
instance fP:SlC prog 59 3 1:=sl_i underlying59
instance:EnC prog 160:=aN func160
instance:EnC prog 159:=aN func159
instance:EnC prog 78:=aN func78
instance:UnC prog 59 (.slice 3):=⟨underlying59⟩
abbrev fT:Nat:=117
instance:FlC prog 166 0 0:=cz 3 underlying166
abbrev jx:Nat:=111
abbrev n_table_is:Nat:=156
def bA (r:ak × Bool):Value:=.tuple #[(.agg (ak.C r.1).toArray),(.bool r.2)]
instance:ZeC prog 50 (.agg (ak.C (⟨0,0,0⟩:ak)).toArray):=ze_i
theorem build_50  : ∀ w,(Instr.build 50 #[]).run prog w = .ok (.agg (ak.C (⟨0,0,0⟩:ak)).toArray) w:=fun _=>by kernel_rfl
instance:AgC prog 50 3:=ag_i underlying50
instance:InC prog 50 3:=tP
instance:FlC prog 221 0 0:=cz 24 underlying221
instance:ArC prog 51 8 50 3:=ar_i underlying51
instance:FlC prog 50 2 2:=cz 1 underlying50
instance:EnC prog 156:=aN func156
instance:UnC prog 167 (.pointer 221):=⟨underlying167⟩
instance:BuC prog 50 [] (fun
 | []=>some (.agg ⟨[.int .i64 0,.int .i64 0,.int .i64 0]⟩)
 | _=>none):=ly fun vs v e w=>by
 split at e <;> cases e
 kernel_rfl
abbrev dR:Nat:=112
instance:SlC prog 164 167 1:=sl_i underlying164
instance:EnC prog 112:=aN func112
instance:ScC prog 167:=rh underlying167
instance:EnC prog 111:=aN func111
abbrev eR:Nat:=61
instance:FlC prog 219 0 0:=cz 1 underlying219
instance:ScC prog 217:=rh underlying217
instance:UnC prog 217 (.slice 223):=⟨underlying217⟩
abbrev gy:Nat:=155
def bL (r:aH × Bool):Value:=.tuple #[(.agg (aH.C r.1).toArray),(.bool r.2)]
instance:ZeC prog 42 (.agg (aH.C (⟨0,0,0,0⟩:aH)).toArray):=ze_i
theorem build_42  : ∀ w,(Instr.build 42 #[]).run prog w = .ok (.agg (aH.C (⟨0,0,0,0⟩:aH)).toArray) w:=fun _=>by kernel_rfl
instance:AgC prog 42 4:=ag_i underlying42
instance:InC prog 42 4:=tP
instance:SlC prog 217 223 32:=sl_i underlying217
instance:ArC prog 223 8 42 4:=ar_i underlying223
instance:FlC prog 42 1 1:=cz 1 underlying42
instance:EnC prog 155:=aN func155
instance:UnC prog 162 (.pointer 219):=⟨underlying162⟩
instance:BuC prog 42 [] (fun
 | []=>some (.agg ⟨[.int .i64 0,.int .i64 0,.int .i64 0,.int .i64 0]⟩)
 | _=>none):=ly fun vs v e w=>by
 split at e <;> cases e
 kernel_rfl
abbrev dm:Nat:=110
instance:FlC prog 166 4 6:=cz 1 underlying166
instance:EnC prog 110:=aN func110
instance:ScC prog 162:=rh underlying162
abbrev gw:Nat:=60
abbrev n_pte_May:Nat:=171
instance:EnC prog 171:=aN func171
abbrev xU:Nat:=123
instance:FlC prog 134 2 2:=cz 5 underlying134
instance:FlC prog 112 0 0:=cz 1 underlying112
instance:FlC prog 42 2 2:=cz 1 underlying42
instance:FlC prog 42 3 3:=cz 1 underlying42
instance:EnC prog 60:=aN func60
instance:ScC prog 103:=rh underlying103
abbrev eN:Nat:=42
instance:FlC prog 134 1 1:=cz 1 underlying134
abbrev qg:Nat:=170
def wY (r:ak):Value:=(.agg (ak.C r).toArray)
instance:FlC prog 50 1 1:=cz 1 underlying50
instance inf_3:InC prog 3 1:=tP
instance:EnC prog 123:=aN func123
instance:EnC prog 170:=aN func170
abbrev lN:Nat:=122
instance:EnC prog 122:=aN func122
instance:FlC prog 134 3 7:=cz 1 underlying134
instance:ScC prog 4:=rh underlying4
instance:EnC prog 61:=aN func61
abbrev lM:Nat:=118
def aU (r:Int × Bool):Value:=.tuple #[(.int .u64 r.1),(.bool r.2)]
def ak.eqb (x y:ak):Bool:=((x.fEa == y.fEa) && ((x.fDa == y.fDa) && ((x.fCa == y.fCa) && true)))
theorem eqr_50 (n:Nat) (x y:ak):EqR prog (n + 2) 50 (.agg (ak.C x).toArray) (.agg (ak.C y).toArray) (ak.eqb x y):=tS underlying50 (by kernel_rfl) (iU (by decide) (eZ eK.ok rfl) (eZ eK.ok rfl) (gI (n:=n + 0) underlying3) (iU (by decide) (eZ eK.ok rfl) (eZ eK.ok rfl) (gI (n:=n + 0) underlying3) (iU (by decide) (eZ eK.ok rfl) (eZ eK.ok rfl) (gI (n:=n + 0) underlying3) eqf_nil)))
theorem eqg_50:prog.eqGuardType prog.depth 50 = false:=by kernel_rfl
instance:FlC prog 50 0 0:=cz 1 underlying50
def ak.D:List Value->Option ak | [.int .i64 y_0,.int .i64 y_1,.int .i64 y_2]=>some (⟨y_0,y_1,y_2⟩:ak) | _=>none
theorem dec_50:∀ l x,ak.D l = some x->l = ak.C x:=by
 intro l x e;unfold ak.D at e;split at e <;> cases e
 rfl
instance:EqC prog 50 ak.C ak.D ak.eqb:=⟨fun x y=>⟨eqg_50,eqr_50 9998 x y⟩,dec_50⟩
abbrev n_pte_Put:Nat:=161
instance:EnC prog 161:=aN func161
abbrev dl:Nat:=119
def jm (r:Ptr):Value:=(pv r)
instance:FlC prog 66 0 0:=cz 1 underlying66
instance:FlC prog 66 1 1:=cz 1 underlying66
abbrev oz:Nat:=172
instance:EnC prog 172:=aN func172
instance:UnC prog 237 (.pointer 175):=⟨underlying237⟩
abbrev mO:Nat:=124
def eJ (r:an × Bool):Value:=.tuple #[(.agg (an.C r.1).toArray),(.bool r.2)]
theorem build_66  : ∀ w,(Instr.build 66 #[]).run prog w = .ok (.agg (an.C (⟨0,0,0,0⟩:an)).toArray) w:=fun _=>by kernel_rfl
instance:BuC prog 66 [] (fun
 | []=>some (.agg ⟨[.int .i64 0,.int .i64 0,.int .i64 0,.int .i64 0]⟩)
 | _=>none):=ly fun vs v e w=>by
 split at e <;> cases e
 kernel_rfl
abbrev oA:Nat:=162
abbrev n_pte_Lets:Nat:=163
instance:FlC prog 175 1 4:=cz 1 underlying175
abbrev tE:Nat:=197
instance:FlC prog 66 2 2:=cz 1 underlying66
instance:FlC prog 66 3 3:=cz 1 underlying66
instance:FlC prog 179 1 40:=cz 1 underlying179
theorem build_175_0_1 (y0:an) (y1:Int):∀ w,(Instr.build 175 #[(0,(.agg (an.C y0).toArray)),(1,(.int .i64 y1))]).run prog w = .ok (.agg (bw.C (⟨y0,y1⟩:bw)).toArray) w:=fun _=>by kernel_rfl
instance:InC prog 175 5:=tP
instance:EnC prog 197:=aN func197
instance:BuC prog 175 [0,1] (fun
 | [.agg ⟨[.int .i64 y0_0,.int .i64 y0_1,.int .i64 y0_2,.int .i64 y0_3]⟩,.int .i64 y1]=>some (.agg ⟨[.int .i64 y0_0,.int .i64 y0_1,.int .i64 y0_2,.int .i64 y0_3,.int .i64 y1]⟩)
 | _=>none):=ly fun vs v e w=>by
 split at e <;> cases e
 kernel_rfl
abbrev oB:Nat:=164
instance:EnC prog 124:=aN func124
theorem build_66_0_1_2_3 (y0:Int) (y1:Int) (y2:Int) (y3:Int):∀ w,(Instr.build 66 #[(0,(.int .i64 y0)),(1,(.int .i64 y1)),(2,(.int .i64 y2)),(3,(.int .i64 y3))]).run prog w = .ok (.agg (an.C (⟨y0,y1,y2,y3⟩:an)).toArray) w:=fun _=>by kernel_rfl
instance:EnC prog 164:=aN func164
instance:EnC prog 163:=aN func163
instance:EnC prog 162:=aN func162
instance:BuC prog 66 [0,1,2,3] (fun
 | [.int .i64 y0,.int .i64 y1,.int .i64 y2,.int .i64 y3]=>some (.agg ⟨[.int .i64 y0,.int .i64 y1,.int .i64 y2,.int .i64 y3]⟩)
 | _=>none):=ly fun vs v e w=>by
 split at e <;> cases e
 kernel_rfl
abbrev uN:Nat:=120
def cH (r:Int):Value:=(.int .i64 r)
instance:UnC prog 158 (.pointer 214):=⟨underlying158⟩
instance:UnC prog 169 (.slice 74):=⟨underlying169⟩
abbrev wL:Nat:=195
def sY (r:Ptr):Value:=(pv r)
instance:SlC prog 169 74 1:=sl_i underlying169
instance:SlC prog 74 30 1:=sl_i underlying74
instance:ScC prog 74:=rh underlying74
instance:EnC prog 195:=aN func195
abbrev lK:Nat:=157
instance:EnC prog 157:=aN func157
instance:UnC prog 184 (.pointer 30):=⟨underlying184⟩
abbrev gx:Nat:=166
instance inf_30:InC prog 30 1:=tP
abbrev eH:Nat:=167
instance:EnC prog 167:=aN func167
instance:EnC prog 166:=aN func166
abbrev qt:Nat:=168
abbrev qu:Nat:=169
def aD (r:ad × Bool):Value:=.tuple #[(.agg (ad.C r.1).toArray),(.bool r.2)]
instance:ZeC prog 64 (.agg (ad.C (⟨0,0⟩:ad)).toArray):=ze_i
theorem build_64  : ∀ w,(Instr.build 64 #[]).run prog w = .ok (.agg (ad.C (⟨0,0⟩:ad)).toArray) w:=fun _=>by kernel_rfl
instance:AgC prog 64 2:=ag_i underlying64
instance:InC prog 64 2:=tP
theorem build_64_1 (y1:Int):∀ w,(Instr.build 64 #[(1,(.int .u64 y1))]).run prog w = .ok (.agg (ad.C (⟨0,y1⟩:ad)).toArray) w:=fun _=>by kernel_rfl
instance:FlC prog 166 1 3:=cz 1 underlying166
instance:ScC prog 158:=rh underlying158
instance:EnC prog 168:=aN func168
instance:EnC prog 169:=aN func169
instance:EnC prog 79:=aN func79
instance:BuC prog 64 [] (fun
 | []=>some (.agg ⟨[.int .i64 0,.int .u64 0]⟩)
 | _=>none):=ly fun vs v e w=>by
 split at e <;> cases e
 kernel_rfl
instance:BuC prog 64 [1] (fun
 | [.int .u64 y1]=>some (.agg ⟨[.int .i64 0,.int .u64 y1]⟩)
 | _=>none):=ly fun vs v e w=>by
 split at e <;> cases e
 kernel_rfl
abbrev dS:Nat:=121
def dH (r:ad × an):Value:=.tuple #[(.agg (ad.C r.1).toArray),(.agg (an.C r.2).toArray)]
instance:FlC prog 112 1 1:=cz 1 underlying112
theorem build_64_0 (y0:Int):∀ w,(Instr.build 64 #[(0,(.int .i64 y0))]).run prog w = .ok (.agg (ad.C (⟨y0,0⟩:ad)).toArray) w:=fun _=>by kernel_rfl
instance:SlC prog 110 113 1:=sl_i underlying110
instance:EnC prog 121:=aN func121
instance:EnC prog 120:=aN func120
instance:ScC prog 113:=rh underlying113
instance:EnC prog 119:=aN func119
instance:EnC prog 118:=aN func118
instance:EnC prog 117:=aN func117
instance:BuC prog 64 [0] (fun
 | [.int .i64 y0]=>some (.agg ⟨[.int .i64 y0,.int .u64 0]⟩)
 | _=>none):=ly fun vs v e w=>by
 split at e <;> cases e
 kernel_rfl
abbrev nj:Nat:=80
instance:FlC prog 134 0 0:=cz 1 underlying134
instance slc_39:SlC prog 39 68 16:=sl_i underlying39
instance:FlC prog 112 7 7:=cz 1 underlying112
instance wO:FlC prog 68 4 8:=cz 1 underlying68
instance fld_68_5:FlC prog 68 5 9:=cz 1 underlying68
instance:FlC prog 68 6 10:=cz 2 underlying68
instance:FlC prog 68 7 12:=cz 4 underlying68
instance:InC prog 132 1:=tP
abbrev lO:Nat:=81
abbrev oC:Nat:=82
def im (r:Sl):Value:=(sv r)
abbrev t_2_tlb_line:Nat:=176
def R_tlb_line (r:bw):Value:=(.agg (bw.C r).toArray)
instance:ZeC prog 175 (.agg (bw.C (⟨(⟨0,0,0,0⟩:an),0⟩:bw)).toArray):=ze_i
abbrev qI:Nat:=70
instance:AgC prog 176 10:=ag_i underlying176
abbrev mN:Nat:=65
instance:SlC prog 70 66 4:=sl_i underlying70
instance:EnC prog 65:=aN func65
instance:UnC prog 70 (.slice 66):=⟨underlying70⟩
abbrev kB:Nat:=83
instance:FlC prog 173 1 1:=cz 1 underlying173
instance:UnC prog 107 (.pointer 173):=⟨underlying107⟩
instance:UnC prog 74 (.slice 30):=⟨underlying74⟩
abbrev kD:Nat:=125
def eE (r:Int):Value:=(.int .u64 r)
instance:FlC prog 173 0 0:=cz 1 underlying173
instance:ScC prog 59:=rh underlying59
abbrev eV:Nat:=126
instance:EnC prog 126:=aN func126
instance:InC prog 59 1:=tP
instance:EnC prog 125:=aN func125
abbrev hZ:Nat:=84
instance:FlC prog 171 0 0:=cz 1 underlying171
instance:UnC prog 105 (.pointer 171):=⟨underlying105⟩
abbrev ll:Nat:=154
abbrev nl:Nat:=220
instance:EnC prog 220:=aN func220
abbrev oI:Nat:=198
abbrev ki:Nat:=199
instance:EnC prog 198:=aN func198
instance:EnC prog 199:=aN func199
instance:UnC prog 265 (.int .u64):=⟨underlying265⟩
abbrev dI:Nat:=173
abbrev sF:Nat:=201
abbrev kv:Nat:=3
abbrev vu:Nat:=200
instance:EnC prog 201:=aN func201
abbrev cG:Nat:=174
instance:InC prog 74 1:=tP
instance:EnC prog 174:=aN func174
instance:EnC prog 173:=aN func173
instance:EnC prog 154:=aN func154
abbrev qe:Nat:=127
instance:EnC prog 127:=aN func127
abbrev mR:Nat:=85
abbrev hY:Nat:=128
instance:EnC prog 128:=aN func128
abbrev iB:Nat:=86
abbrev vv:Nat:=129
theorem build_42_0_1_2 (y0:Int) (y1:Int) (y2:Int):∀ w,(Instr.build 42 #[(0,(.int .i64 y0)),(1,(.int .i64 y1)),(2,(.int .i64 y2))]).run prog w = .ok (.agg (aH.C (⟨y0,y1,y2,0⟩:aH)).toArray) w:=fun _=>by kernel_rfl
instance:BuC prog 42 [0,1,2] (fun
 | [.int .i64 y0,.int .i64 y1,.int .i64 y2]=>some (.agg ⟨[.int .i64 y0,.int .i64 y1,.int .i64 y2,.int .i64 0]⟩)
 | _=>none):=ly fun vs v e w=>by
 split at e <;> cases e
 kernel_rfl
abbrev iL:Nat:=142
abbrev jv:Nat:=202
instance:FlC prog 216 0 0:=cz 1 underlying216
instance:EnC prog 202:=aN func202
instance:UnC prog 160 (.pointer 216):=⟨underlying160⟩
abbrev iI:Nat:=175
abbrev t_none:Nat:=0
abbrev tG:Nat:=176
instance:FlC prog 166 3 5:=cz 1 underlying166
instance:EnC prog 142:=aN func142
instance:EnC prog 176:=aN func176
instance:EnC prog 175:=aN func175
instance:ScC prog 160:=rh underlying160
abbrev kX:Nat:=130
instance:FlC prog 42 0 0:=cz 1 underlying42
theorem build_42_0_1_2_3 (y0:Int) (y1:Int) (y2:Int) (y3:Int):∀ w,(Instr.build 42 #[(0,(.int .i64 y0)),(1,(.int .i64 y1)),(2,(.int .i64 y2)),(3,(.int .i64 y3))]).run prog w = .ok (.agg (aH.C (⟨y0,y1,y2,y3⟩:aH)).toArray) w:=fun _=>by kernel_rfl
instance:BuC prog 42 [0,1,2,3] (fun
 | [.int .i64 y0,.int .i64 y1,.int .i64 y2,.int .i64 y3]=>some (.agg ⟨[.int .i64 y0,.int .i64 y1,.int .i64 y2,.int .i64 y3]⟩)
 | _=>none):=ly fun vs v e w=>by
 split at e <;> cases e
 kernel_rfl
abbrev gA:Nat:=143
abbrev iJ:Nat:=203
instance:EnC prog 203:=aN func203
abbrev lI:Nat:=177
def bS (r:Sl):Value:=(sv r)
abbrev kM:Nat:=223
def R_api_Cap (r:aH):Value:=(.agg (aH.C r).toArray)
theorem build_244_0_1 (y0:Int) (y1:Int):∀ w,(Instr.build 244 #[(0,(.int .i64 y0)),(1,(.int .i64 y1))]).run prog w = .ok (.agg (au.C (⟨y0,y1⟩:au)).toArray) w:=fun _=>by kernel_rfl
instance:ZeC prog 244 (.agg (au.C (⟨0,0⟩:au)).toArray):=ze_i
instance:AgC prog 244 2:=ag_i underlying244
abbrev ge:Nat:=208
instance:InC prog 244 2:=tP
instance:BuC prog 244 [0,1] (fun
 | [.int .i64 y0,.int .i64 y1]=>some (.agg ⟨[.int .i64 y0,.int .i64 y1]⟩)
 | _=>none):=ly fun vs v e w=>by
 split at e <;> cases e
 kernel_rfl
abbrev jN:Nat:=188
abbrev lT:Nat:=204
instance:SlC prog 208 244 2:=sl_i underlying208
instance:FlC prog 244 0 0:=cz 1 underlying244
instance:FlC prog 244 1 1:=cz 1 underlying244
instance:UnC prog 208 (.slice 244):=⟨underlying208⟩
abbrev fM:Nat:=205
abbrev kE:Nat:=190
def au.eqb (x y:au):Bool:=((x.fBa == y.fBa) && ((x.fDa == y.fDa) && true))
theorem eqr_244 (n:Nat) (x y:au):EqR prog (n + 2) 244 (.agg (au.C x).toArray) (.agg (au.C y).toArray) (au.eqb x y):=tS underlying244 (by kernel_rfl) (iU (by decide) (eZ eK.ok rfl) (eZ eK.ok rfl) (gI (n:=n + 0) underlying3) (iU (by decide) (eZ eK.ok rfl) (eZ eK.ok rfl) (gI (n:=n + 0) underlying3) eqf_nil))
theorem eqg_244:prog.eqGuardType prog.depth 244 = false:=by kernel_rfl
instance:EnC prog 190:=aN func190
def au.D:List Value->Option au | [.int .i64 y_0,.int .i64 y_1]=>some (⟨y_0,y_1⟩:au) | _=>none
theorem dec_244:∀ l x,au.D l = some x->l = au.C x:=by
 intro l x e;unfold au.D at e;split at e <;> cases e
 rfl
instance:EqC prog 244 au.C au.D au.eqb:=⟨fun x y=>⟨eqg_244,eqr_244 9998 x y⟩,dec_244⟩
abbrev fN:Nat:=206
def cC (r:Sl × Int):Value:=.tuple #[(sv r.1),(.int .i64 r.2)]
instance:EnC prog 205:=aN func205
instance:EnC prog 188:=aN func188
abbrev so:Nat:=244
instance:EnC prog 204:=aN func204
abbrev sq:Nat:=162
abbrev lU:Nat:=178
instance:EnC prog 178:=aN func178
instance:EnC prog 177:=aN func177
instance:EnC prog 143:=aN func143
abbrev gH:Nat:=131
def iC (r:ak × Int):Value:=.tuple #[(.agg (ak.C r.1).toArray),(.int .i64 r.2)]
abbrev hO:Nat:=134
abbrev lx:Nat:=189
abbrev kF:Nat:=147
instance:EnC prog 147:=aN func147
abbrev np:Nat:=179
abbrev uh:Nat:=51
abbrev lH:Nat:=180
abbrev mP:Nat:=181
def gb (r:ad):Value:=(.agg (ad.C r).toArray)
instance:EnC prog 134:=aN func134
instance:EnC prog 181:=aN func181
instance:EnC prog 180:=aN func180
instance:EnC prog 179:=aN func179
abbrev kj:Nat:=132
theorem build_50_0_1_2 (y0:Int) (y1:Int) (y2:Int):∀ w,(Instr.build 50 #[(0,(.int .i64 y0)),(1,(.int .i64 y1)),(2,(.int .i64 y2))]).run prog w = .ok (.agg (ak.C (⟨y0,y1,y2⟩:ak)).toArray) w:=fun _=>by kernel_rfl
instance:BuC prog 50 [0,1,2] (fun
 | [.int .i64 y0,.int .i64 y1,.int .i64 y2]=>some (.agg ⟨[.int .i64 y0,.int .i64 y1,.int .i64 y2]⟩)
 | _=>none):=ly fun vs v e w=>by
 split at e <;> cases e
 kernel_rfl
abbrev mj:Nat:=133
abbrev kh:Nat:=182
instance:EnC prog 182:=aN func182
abbrev jw:Nat:=135
abbrev xV:Nat:=148
instance:EnC prog 129:=aN func129
instance:EnC prog 148:=aN func148
abbrev kW:Nat:=136
abbrev mh:Nat:=137
instance:EnC prog 132:=aN func132
instance:EnC prog 130:=aN func130
instance:EnC prog 131:=aN func131
instance:EnC prog 133:=aN func133
instance:EnC prog 135:=aN func135
instance:EnC prog 136:=aN func136
instance:EnC prog 137:=aN func137
abbrev cD:Nat:=87
instance:EnC prog 81:=aN func81
instance:EnC prog 80:=aN func80
instance:FlC prog 112 4 4:=cz 1 underlying112
instance:FlC prog 134 4 8:=cz 1 underlying134
instance:FlC prog 112 3 3:=cz 1 underlying112
instance:EnC prog 85:=aN func85
instance:ScC prog 105:=rh underlying105
instance:EnC prog 84:=aN func84
instance:ScC prog 107:=rh underlying107
instance:EnC prog 83:=aN func83
instance:InC prog 4 1:=tP
instance:EnC prog 87:=aN func87
instance:EnC prog 86:=aN func86
instance:EnC prog 82:=aN func82
instance:EnC prog 35:=aN func35
abbrev lP:Nat:=36
abbrev kA:Nat:=109
instance:EnC prog 109:=aN func109
abbrev lL:Nat:=88
abbrev jz:Nat:=89
instance:EnC prog 89:=aN func89
instance:EnC prog 88:=aN func88
abbrev lQ:Nat:=37
abbrev qh:Nat:=55
instance:EnC prog 36:=aN func36
instance:EnC prog 37:=aN func37
instance:EnC prog 55:=aN func55
abbrev fX:Nat:=16
theorem build_68_0_1_2_3 (y0:Int) (y1:Int) (y2:aa) (y3:Int):∀ w,(Instr.build 68 #[(0,(.int .i64 y0)),(1,(.int .i64 y1)),(2,(.agg (aa.C y2).toArray)),(3,(.int .i64 y3))]).run prog w = .ok (.agg (ax.C (⟨y0,y1,y2,y3,0,0,(⟨0,0⟩:ad),(⟨0,0,0,0⟩:an)⟩:ax)).toArray) w:=fun _=>by kernel_rfl
theorem build_134_0_1_2 (y0:Int) (y1:Int) (y2:aa):∀ w,(Instr.build 134 #[(0,(.int .i64 y0)),(1,(.int .i64 y1)),(2,(.agg (aa.C y2).toArray))]).run prog w = .ok (.agg (lA.C (⟨y0,y1,y2,false,0⟩:lA)).toArray) w:=fun _=>by kernel_rfl
abbrev bP:Nat:=134
instance:InC prog 39 1:=tP
instance:BuC prog 68 [0,1,2,3] (fun
 | [.int .i64 y0,.int .i64 y1,.agg ⟨[.int .u64 y2_0,.int .u64 y2_1,.int .u64 y2_2,.int .u64 y2_3,.int .u64 y2_4]⟩,.int .i64 y3]=>some (.agg ⟨[.int .i64 y0,.int .i64 y1,.int .u64 y2_0,.int .u64 y2_1,.int .u64 y2_2,.int .u64 y2_3,.int .u64 y2_4,.int .i64 y3,.int .i64 0,.int .i64 0,.int .i64 0,.int .u64 0,.int .i64 0,.int .i64 0,.int .i64 0,.int .i64 0]⟩)
 | _=>none):=ly fun vs v e w=>by
 split at e <;> cases e
 kernel_rfl
instance:BuC prog 134 [0,1,2] (fun
 | [.int .i64 y0,.int .i64 y1,.agg ⟨[.int .u64 y2_0,.int .u64 y2_1,.int .u64 y2_2,.int .u64 y2_3,.int .u64 y2_4]⟩]=>some (.agg ⟨[.int .i64 y0,.int .i64 y1,.int .u64 y2_0,.int .u64 y2_1,.int .u64 y2_2,.int .u64 y2_3,.int .u64 y2_4,.bool false,.int .u64 0]⟩)
 | _=>none):=ly fun vs v e w=>by
 split at e <;> cases e
 kernel_rfl
abbrev kC:Nat:=34
instance fld_68_0:FlC prog 68 0 0:=cz 1 underlying68
instance:EnC prog 18:=aN func18
instance:EnC prog 16:=aN func16
instance:EnC prog 34:=aN func34
abbrev dx:Nat:=32
def mL (r:Sl):Value:=(sv r)
instance zero_68:ZeC prog 68 (.agg (ax.C (⟨0,0,(⟨0,0,0,0,0⟩:aa),0,0,0,(⟨0,0⟩:ad),(⟨0,0,0,0⟩:an)⟩:ax)).toArray):=ze_i
instance:FlC prog 68 1 1:=cz 1 underlying68
abbrev mG:Nat:=97
instance inf_68:InC prog 68 16:=tP
instance ag_68:AgC prog 68 16:=ag_i underlying68
abbrev n_twin_View:Nat:=41
instance fld_68_3:FlC prog 68 3 7:=cz 1 underlying68
abbrev n_hist_one:Nat:=96
abbrev iD:Nat:=151
def R_map_int_bool (r:(Option Nat)):Value:=(.map r)
abbrev gc:Nat:=152
def R_map_int_int (r:(Option Nat)):Value:=(.map r)
instance en_96:EnC prog 96:=aN func96
abbrev xZ:Nat:=46
abbrev qv:Nat:=97
abbrev mT:Nat:=98
abbrev aY:Nat:=193
abbrev bZ:Nat:=227
instance:EnC prog 227:=aN func227
abbrev cu:Nat:=219
abbrev bm:Nat:=194
instance en_194:EnC prog 194:=aN func194
instance en_219:EnC prog 219:=aN func219
instance:EnC prog 193:=aN func193
abbrev kV:Nat:=151
instance:EnC prog 151:=aN func151
abbrev di:Nat:=99
abbrev rF:Nat:=152
instance:EnC prog 152:=aN func152
abbrev oJ:Nat:=101
instance:EnC prog 101:=aN func101
abbrev rE:Nat:=100
instance:EnC prog 99:=aN func99
instance:EnC prog 97:=aN func97
abbrev lR:Nat:=47
instance:FlC prog 68 2 2:=cz 5 underlying68
abbrev xY:Nat:=139
abbrev fB:Nat:=158
instance:EnC prog 158:=aN func158
abbrev rC:Nat:=114
instance:UnC prog 164 (.slice 167):=⟨underlying164⟩
abbrev mi:Nat:=208
instance:EnC prog 114:=aN func114
instance:EnC prog 208:=aN func208
abbrev fL:Nat:=184
abbrev tI:Nat:=222
abbrev n_hist_Over:Nat:=207
def qm (r:Sl):Value:=(sv r)
instance:FlC prog 203 2 4:=cz 1 underlying203
abbrev pQ:Nat:=246
instance:FlC prog 203 0 0:=cz 1 underlying203
instance:EnC prog 184:=aN func184
instance:EnC prog 207:=aN func207
abbrev lq:Nat:=183
instance:FlC prog 203 1 1:=cz 3 underlying203
def ad.eqb (x y:ad):Bool:=((x.fWa == y.fWa) && ((x.fVal == y.fVal) && true))
instance sc_62:ScC prog 62:=rh underlying62
theorem eqr_64 (n:Nat) (x y:ad):EqR prog (n + 2) 64 (.agg (ad.C x).toArray) (.agg (ad.C y).toArray) (ad.eqb x y):=tS underlying64 (by kernel_rfl) (iU (by decide) (eZ sc_62.ok rfl) (eZ sc_62.ok rfl) (gI (n:=n + 0) underlying62) (iU (by decide) (eZ sc_30.ok rfl) (eZ sc_30.ok rfl) (gI (n:=n + 0) underlying30) eqf_nil))
theorem eqg_64:prog.eqGuardType prog.depth 64 = false:=by kernel_rfl
def an.eqb (x y:an):Bool:=((x.fBa == y.fBa) && ((x.fPa == y.fPa) && ((x.fEa == y.fEa) && ((x.fCa == y.fCa) && true))))
theorem eqr_66 (n:Nat) (x y:an):EqR prog (n + 2) 66 (.agg (an.C x).toArray) (.agg (an.C y).toArray) (an.eqb x y):=tS underlying66 (by kernel_rfl) (iU (by decide) (eZ eK.ok rfl) (eZ eK.ok rfl) (gI (n:=n + 0) underlying3) (iU (by decide) (eZ eK.ok rfl) (eZ eK.ok rfl) (gI (n:=n + 0) underlying3) (iU (by decide) (eZ eK.ok rfl) (eZ eK.ok rfl) (gI (n:=n + 0) underlying3) (iU (by decide) (eZ eK.ok rfl) (eZ eK.ok rfl) (gI (n:=n + 0) underlying3) eqf_nil))))
theorem eqg_66:prog.eqGuardType prog.depth 66 = false:=by kernel_rfl
instance:SlC prog 246 50 3:=sl_i underlying246
instance:FlC prog 64 0 0:=cz 1 underlying64
instance:FlC prog 64 1 1:=cz 1 underlying64
instance:EnC prog 183:=aN func183
instance:UnC prog 246 (.slice 50):=⟨underlying246⟩
def ad.D:List Value->Option ad | [.int .i64 y_0,.int .u64 y_1]=>some (⟨y_0,y_1⟩:ad) | _=>none
theorem dec_64:∀ l x,ad.D l = some x->l = ad.C x:=by
 intro l x e;unfold ad.D at e;split at e <;> cases e
 rfl
instance:EqC prog 64 ad.C ad.D ad.eqb:=⟨fun x y=>⟨eqg_64,eqr_64 9998 x y⟩,dec_64⟩
def an.D:List Value->Option an | [.int .i64 y_0,.int .i64 y_1,.int .i64 y_2,.int .i64 y_3]=>some (⟨y_0,y_1,y_2,y_3⟩:an) | _=>none
theorem dec_66:∀ l x,an.D l = some x->l = an.C x:=by
 intro l x e;unfold an.D at e;split at e <;> cases e
 rfl
instance:EqC prog 66 an.C an.D an.eqb:=⟨fun x y=>⟨eqg_66,eqr_66 9998 x y⟩,dec_66⟩
abbrev lr:Nat:=140
abbrev nk:Nat:=141
theorem build_203_0_1_2 (y0:Sl) (y1:ao) (y2:Ptr):∀ w,(Instr.build 203 #[(0,(sv y0)),(1,(.agg (ao.C y1).toArray)),(2,(pv y2))]).run prog w = .ok (.agg (ke.C (⟨y0,y1,y2⟩:ke)).toArray) w:=fun _=>by kernel_rfl
instance:EnC prog 141:=aN func141
instance:EnC prog 140:=aN func140
instance:EnC prog 139:=aN func139
instance:EnC prog 47:=aN func47
abbrev ch:Nat:=203
instance:EnC prog 46:=aN func46
instance:BuC prog 203 [0,1,2] (fun
 | [.slice y0p y0n y0c,.agg ⟨[.int .i64 y1_0,.int .i64 y1_1,.int .i64 y1_2]⟩,.pointer y2]=>some (.agg ⟨[.slice y0p y0n y0c,.int .i64 y1_0,.int .i64 y1_1,.int .i64 y1_2,.pointer y2]⟩)
 | _=>none):=ly fun vs v e w=>by
 split at e <;> cases e
 kernel_rfl
abbrev uP:Nat:=94
instance:EnC prog 94:=aN func94
abbrev oF:Nat:=42
abbrev oG:Nat:=43
def gj (r:Sl):Value:=(sv r)
abbrev kL:Nat:=24
theorem build_34_0_1 (y0:Int) (y1:Int):∀ w,(Instr.build 34 #[(0,(.int .i64 y0)),(1,(.int .i64 y1))]).run prog w = .ok (.agg (bJ.C (⟨y0,y1,0,(⟨0,0,0,0,0⟩:aa),0,0⟩:bJ)).toArray) w:=fun _=>by kernel_rfl
instance:BuC prog 34 [0,1] (fun
 | [.int .i64 y0,.int .i64 y1]=>some (.agg ⟨[.int .i64 y0,.int .i64 y1,.int .i64 0,.int .u64 0,.int .u64 0,.int .u64 0,.int .u64 0,.int .u64 0,.int .i64 0,.int .i64 0]⟩)
 | _=>none):=ly fun vs v e w=>by
 split at e <;> cases e
 kernel_rfl
abbrev vy:Nat:=44
abbrev lJ:Nat:=113
instance:EnC prog 113:=aN func113
abbrev mo:Nat:=62
abbrev xR:Nat:=185
instance:EnC prog 185:=aN func185
abbrev n_user_Do:Nat:=144
def gK (r:Value):Value:=(r)
theorem build_260_0_1 (y0:Int) (y1:Int):∀ w,(Instr.build 260 #[(0,(.int .i64 y0)),(1,(.int .i64 y1))]).run prog w = .ok (.agg (bh.C (⟨y0,y1,(⟨0,0,0,0,0⟩:aa),Value.nilIface⟩:bh)).toArray) w:=fun _=>by kernel_rfl
abbrev aI:Nat:=258
abbrev ns:Nat:=260
instance:BuC prog 260 [0,1] (fun
 | [.int .i64 y0,.int .i64 y1]=>some (.agg ⟨[.int .i64 y0,.int .i64 y1,.int .u64 0,.int .u64 0,.int .u64 0,.int .u64 0,.int .u64 0,Value.nilIface]⟩)
 | _=>none):=ly fun vs v e w=>by
 split at e <;> cases e
 kernel_rfl
abbrev jZ:Nat:=150
abbrev fo:Nat:=191
instance:AgC prog 304 3:=ag_i underlying304
abbrev dY:Nat:=235
def eF (r:aF):Value:=(.agg (aF.C r).toArray)
abbrev bU:Nat:=231
abbrev eB:Nat:=236
abbrev fy:Nat:=206
abbrev iq:Nat:=285
def fx (r:Value × Bool):Value:=.tuple #[(r.1),(.bool r.2)]
abbrev gO:Nat:=287
def eY (r:Value × Bool):Value:=.tuple #[(r.1),(.bool r.2)]
def R_Serror (r:Sl):Value:=(sv r)
instance:SlC prog 288 206 1:=sl_i underlying288
abbrev uQ:Nat:=234
instance:EnC prog 234:=aN func234
instance:ScC prog 206:=rh underlying206
abbrev qG:Nat:=313
def nr (r:Value × Bool):Value:=.tuple #[(r.1),(.bool r.2)]
instance:UnC prog 288 (.slice 206):=⟨underlying288⟩
instance:ZeC prog 304 (.agg (aF.C (⟨none,none,0⟩:aF)).toArray):=ze_i
abbrev gM:Nat:=232
def R_abi_Kind (r:Int):Value:=(.int .u8 r)
def str_6ae768b9:ByteArray:=⟨#[101,114,114,111,114,115,58,32,42,116,97,114,103,101,116,32,109,117,115,116,32,98,101,32,105,110,116,101,114,102,97,99,101,32,111,114,32,105,109,112,108,101,109,101,110,116,32,101,114,114,111,114]⟩
abbrev ta:Nat:=9
instance:ScC prog 255:=rh underlying255
abbrev dO:Nat:=233
def str_ae9b7a08:ByteArray:=⟨#[101,114,114,111,114,115,58,32,116,97,114,103,101,116,32,109,117,115,116,32,98,101,32,97,32,110,111,110,45,110,105,108,32,112,111,105,110,116,101,114]⟩
instance:InC prog 304 3:=tP
def str_53947bae:ByteArray:=⟨#[101,114,114,111,114,115,58,32,116,97,114,103,101,116,32,99,97,110,110,111,116,32,98,101,32,110,105,108]⟩
abbrev uR:Nat:=229
def dF (r:Ptr × Bool):Value:=.tuple #[(pv r.1),(.bool r.2)]
instance:ZeC prog 258 (pv none):=ze_i
instance:ScC prog 258:=rh underlying258
abbrev aP:Nat:=298
instance:EnC prog 229:=aN func229
instance:UnC prog 258 (.pointer 260):=⟨underlying258⟩
abbrev jt:Nat:=223
instance:FlC prog 260 0 0:=cz 1 underlying260
instance:EnC prog 223:=aN func223
abbrev uO:Nat:=209
def R_trap_Trap (r:bh):Value:=(.agg (bh.C r).toArray)
instance:EnC prog 209:=aN func209
abbrev n_trap_In:Nat:=186
instance:EnC prog 150:=aN func150
instance:EnC prog 186:=aN func186
abbrev ng:Nat:=145
def oS (r:Ptr):Value:=(pv r)
theorem build_293_0 (y0:Int):∀ w,(Instr.build 293 #[(0,(.int .u64 y0))]).run prog w = .ok (.agg (nN.C (⟨y0,0⟩:nN)).toArray) w:=fun _=>by kernel_rfl
abbrev qH:Nat:=293
instance:BuC prog 293 [0] (fun
 | [.int .u64 y0]=>some (.agg ⟨[.int .u64 y0,.int .i64 0]⟩)
 | _=>none):=ly fun vs v e w=>by
 split at e <;> cases e
 kernel_rfl
abbrev tJ:Nat:=210
def tX (r:Ptr):Value:=(pv r)
theorem build_295_0_1 (y0:Ptr) (y1:Ptr):∀ w,(Instr.build 295 #[(0,(pv y0)),(1,(pv y1))]).run prog w = .ok (.agg (ka.C (⟨y0,y1⟩:ka)).toArray) w:=fun _=>by kernel_rfl
abbrev mF:Nat:=295
instance:EnC prog 210:=aN func210
instance:BuC prog 295 [0,1] (fun
 | [.pointer y0,.pointer y1]=>some (.agg ⟨[.pointer y0,.pointer y1]⟩)
 | _=>none):=ly fun vs v e w=>by
 split at e <;> cases e
 kernel_rfl
abbrev xT:Nat:=211
instance:FlC prog 293 1 1:=cz 1 underlying293
instance:FlC prog 293 0 0:=cz 1 underlying293
instance:UnC prog 274 (.pointer 293):=⟨underlying274⟩
abbrev oK:Nat:=212
instance:FlC prog 295 0 0:=cz 1 underlying295
instance:EnC prog 212:=aN func212
instance:ScC prog 274:=rh underlying274
instance:UnC prog 276 (.pointer 295):=⟨underlying276⟩
abbrev ne:Nat:=213
abbrev nD:Nat:=192
instance:EnC prog 192:=aN func192
abbrev lX:Nat:=282
def iZ (r:Value × Bool):Value:=.tuple #[(r.1),(.bool r.2)]
abbrev nE:Nat:=149
instance:FlC prog 260 3 7:=cz 1 underlying260
abbrev xS:Nat:=230
theorem build_32_0_1 (y0:Int) (y1:Int):∀ w,(Instr.build 32 #[(0,(.int .u64 y0)),(1,(.int .u64 y1))]).run prog w = .ok (.agg (aa.C (⟨y0,y1,0,0,0⟩:aa)).toArray) w:=fun _=>by kernel_rfl
instance:FlC prog 260 1 1:=cz 1 underlying260
instance:FlC prog 260 2 2:=cz 5 underlying260
def aa.eqb (x y:aa):Bool:=((x.e0 == y.e0) && ((x.e1 == y.e1) && ((x.e2 == y.e2) && ((x.e3 == y.e3) && ((x.e4 == y.e4) && true)))))
theorem eqr_32 (n:Nat) (x y:aa):EqR prog (n + 2) 32 (.agg (aa.C x).toArray) (.agg (aa.C y).toArray) (aa.eqb x y):=eqr_arr underlying32 inf_30.ok ⟨_,_,_,_,(eZ sc_30.ok rfl),(eZ sc_30.ok rfl),(gI (n:=n + 0) underlying30),⟨_,_,_,_,(eZ sc_30.ok rfl),(eZ sc_30.ok rfl),(gI (n:=n + 0) underlying30),⟨_,_,_,_,(eZ sc_30.ok rfl),(eZ sc_30.ok rfl),(gI (n:=n + 0) underlying30),⟨_,_,_,_,(eZ sc_30.ok rfl),(eZ sc_30.ok rfl),(gI (n:=n + 0) underlying30),⟨_,_,_,_,(eZ sc_30.ok rfl),(eZ sc_30.ok rfl),(gI (n:=n + 0) underlying30),rfl,rfl⟩,rfl⟩,rfl⟩,rfl⟩,rfl⟩
theorem eqg_32:prog.eqGuardType prog.depth 32 = false:=by kernel_rfl
def cA (r:ByteArray):Value:=(.string r)
def nS:ByteArray:=⟨#[116,114,97,112,32,51,58,32,116,114,97,112,32,51]⟩
instance:EnC prog 149:=aN func149
instance:EnC prog 230:=aN func230
instance:BuC prog 32 [0,1] (fun
 | [.int .u64 y0,.int .u64 y1]=>some (.agg ⟨[.int .u64 y0,.int .u64 y1,.int .u64 0,.int .u64 0,.int .u64 0]⟩)
 | _=>none):=ly fun vs v e w=>by
 split at e <;> cases e
 kernel_rfl
instance:EqC prog 32 aa.C aa.D aa.eqb:=⟨fun x y=>⟨eqg_32,eqr_32 9998 x y⟩,dec_32⟩
abbrev lh:Nat:=224
instance:EnC prog 224:=aN func224
abbrev li:Nat:=214
abbrev lS:Nat:=225
instance:FlC prog 295 1 1:=cz 1 underlying295
instance:EnC prog 225:=aN func225
abbrev ju:Nat:=215
abbrev rG:Nat:=226
instance:EnC prog 226:=aN func226
instance:EnC prog 215:=aN func215
abbrev nc:Nat:=216
abbrev n_word_Args:Nat:=217
abbrev qd:Nat:=218
theorem build_32_0 (y0:Int):∀ w,(Instr.build 32 #[(0,(.int .u64 y0))]).run prog w = .ok (.agg (aa.C (⟨y0,0,0,0,0⟩:aa)).toArray) w:=fun _=>by kernel_rfl
theorem build_32_0_1_2_3 (y0:Int) (y1:Int) (y2:Int) (y3:Int):∀ w,(Instr.build 32 #[(0,(.int .u64 y0)),(1,(.int .u64 y1)),(2,(.int .u64 y2)),(3,(.int .u64 y3))]).run prog w = .ok (.agg (aa.C (⟨y0,y1,y2,y3,0⟩:aa)).toArray) w:=fun _=>by kernel_rfl
instance:EnC prog 218:=aN func218
instance:EnC prog 217:=aN func217
instance:EnC prog 216:=aN func216
instance:EnC prog 214:=aN func214
instance:EnC prog 213:=aN func213
instance:EnC prog 211:=aN func211
instance:BuC prog 32 [0] (fun
 | [.int .u64 y0]=>some (.agg ⟨[.int .u64 y0,.int .u64 0,.int .u64 0,.int .u64 0,.int .u64 0]⟩)
 | _=>none):=ly fun vs v e w=>by
 split at e <;> cases e
 kernel_rfl
instance:BuC prog 32 [0,1,2,3] (fun
 | [.int .u64 y0,.int .u64 y1,.int .u64 y2,.int .u64 y3]=>some (.agg ⟨[.int .u64 y0,.int .u64 y1,.int .u64 y2,.int .u64 y3,.int .u64 0]⟩)
 | _=>none):=ly fun vs v e w=>by
 split at e <;> cases e
 kernel_rfl
abbrev lc:Nat:=187
instance:EnC prog 187:=aN func187
abbrev lf:Nat:=146
theorem build_23_0_1_2 (y0:Int) (y1:Int) (y2:Int):∀ w,(Instr.build 23 #[(0,(.int .i64 y0)),(1,(.int .i64 y1)),(2,(.int .i64 y2))]).run prog w = .ok (.agg (ao.C (⟨y0,y1,y2⟩:ao)).toArray) w:=fun _=>by kernel_rfl
theorem build_32_0_1_2 (y0:Int) (y1:Int) (y2:Int):∀ w,(Instr.build 32 #[(0,(.int .u64 y0)),(1,(.int .u64 y1)),(2,(.int .u64 y2))]).run prog w = .ok (.agg (aa.C (⟨y0,y1,y2,0,0⟩:aa)).toArray) w:=fun _=>by kernel_rfl
instance:EnC prog 62:=aN func62
instance:EnC prog 146:=aN func146
instance:EnC prog 145:=aN func145
instance:EnC prog 144:=aN func144
instance:BuC prog 23 [0,1,2] (fun
 | [.int .i64 y0,.int .i64 y1,.int .i64 y2]=>some (.agg ⟨[.int .i64 y0,.int .i64 y1,.int .i64 y2]⟩)
 | _=>none):=ly fun vs v e w=>by
 split at e <;> cases e
 kernel_rfl
instance:BuC prog 32 [0,1,2] (fun
 | [.int .u64 y0,.int .u64 y1,.int .u64 y2]=>some (.agg ⟨[.int .u64 y0,.int .u64 y1,.int .u64 y2,.int .u64 0,.int .u64 0]⟩)
 | _=>none):=ly fun vs v e w=>by
 split at e <;> cases e
 kernel_rfl
abbrev kq:Nat:=95
instance:EnC prog 95:=aN func95
abbrev kr:Nat:=45
instance:SlC prog 24 34 10:=sl_i underlying24
instance:ZeC prog 34 (.agg (bJ.C (⟨0,0,0,(⟨0,0,0,0,0⟩:aa),0,0⟩:bJ)).toArray):=ze_i
instance:FlC prog 34 0 0:=cz 1 underlying34
instance:FlC prog 34 1 1:=cz 1 underlying34
instance:InC prog 34 10:=tP
instance:AgC prog 34 10:=ag_i underlying34
instance:UnC prog 24 (.slice 34):=⟨underlying24⟩
abbrev oH:Nat:=102
instance:EnC prog 102:=aN func102
abbrev n_fair_Fair:Nat:=48
instance:EnC prog 43:=aN func43
instance:EnC prog 42:=aN func42
abbrev vx:Nat:=49
instance:ZeC prog 23 (.agg (ao.C (⟨0,0,0⟩:ao)).toArray):=ze_i
instance:EnC prog 49:=aN func49
instance:EnC prog 41:=aN func41
instance:EnC prog 48:=aN func48
instance:EnC prog 45:=aN func45
instance:EnC prog 44:=aN func44
instance:EnC prog 32:=aN func32
instance:EnC prog 14:=aN func14
instance:InC prog 23 3:=tP
instance:UnC prog 97 (.slice 64):=⟨underlying97⟩
abbrev ko:Nat:=11
def R_api_Size (r:ao):Value:=(.agg (ao.C r).toArray)
abbrev lj:Nat:=12
abbrev my:Nat:=13
abbrev rA:Nat:=108
instance:EnC prog 108:=aN func108
abbrev oE:Nat:=54
instance:FlC prog 34 2 2:=cz 1 underlying34
instance:FlC prog 34 3 3:=cz 5 underlying34
instance:FlC prog 34 4 8:=cz 1 underlying34
instance:FlC prog 34 5 9:=cz 1 underlying34
instance:EnC prog 54:=aN func54
abbrev ni:Nat:=15
def df (r:Ptr):Value:=(pv r)
abbrev ay:Nat:=56
abbrev mw:Nat:=31
instance:FlC prog 56 1 3:=cz 160 underlying56
instance:ArC prog 48 4 47 40:=ar_i underlying48
instance:ArC prog 47 8 46 5:=ar_i underlying47
instance:FlC prog 46 0 0:=cz 1 underlying46
instance:FlC prog 46 1 1:=cz 1 underlying46
abbrev dW:Nat:=63
instance:FlC prog 56 0 0:=cz 3 underlying56
instance:EnC prog 63:=aN func63
abbrev dX:Nat:=22
abbrev mu:Nat:=57
abbrev mv:Nat:=69
abbrev t_Sstring:Nat:=226
def R_Sstring (r:Sl):Value:=(sv r)
instance:SlC prog 226 9 1:=sl_i underlying226
instance:ScC prog 9:=rh underlying9
instance:UnC prog 226 (.slice 9):=⟨underlying226⟩
abbrev mq:Nat:=115
instance:EnC prog 115:=aN func115
instance:EnC prog 57:=aN func57
instance:UnC prog 9 .string:=⟨underlying9⟩
abbrev la:Nat:=70
abbrev nh:Nat:=66
instance:EnC prog 66:=aN func66
abbrev kl:Nat:=25
instance:ZeC prog 46 (.agg (aq.C (⟨false,0,0,0,0⟩:aq)).toArray):=ze_i
instance:FlC prog 46 2 2:=cz 1 underlying46
theorem build_46_0_1_2_3_4 (y0:Bool) (y1:Int) (y2:Int) (y3:Int) (y4:Int):∀ w,(Instr.build 46 #[(0,(.bool y0)),(1,(.int .i64 y1)),(2,(.int .i64 y2)),(3,(.int .i64 y3)),(4,(.int .i64 y4))]).run prog w = .ok (.agg (aq.C (⟨y0,y1,y2,y3,y4⟩:aq)).toArray) w:=fun _=>by kernel_rfl
instance:InC prog 46 5:=tP
instance:EnC prog 25:=aN func25
instance:AgC prog 46 5:=ag_i underlying46
instance:BuC prog 46 [0,1,2,3,4] (fun
 | [.bool y0,.int .i64 y1,.int .i64 y2,.int .i64 y3,.int .i64 y4]=>some (.agg ⟨[.bool y0,.int .i64 y1,.int .i64 y2,.int .i64 y3,.int .i64 y4]⟩)
 | _=>none):=ly fun vs v e w=>by
 split at e <;> cases e
 kernel_rfl
abbrev dE:Nat:=71
instance:FlC prog 125 0 0:=cz 1 underlying125
instance:FlC prog 125 1 1:=cz 1 underlying125
instance:FlC prog 46 3 3:=cz 1 underlying46
instance:FlC prog 46 4 4:=cz 1 underlying46
theorem build_125_0_1 (y0:Int) (y1:Int):∀ w,(Instr.build 125 #[(0,(.int .i64 y0)),(1,(.int .i64 y1))]).run prog w = .ok (.agg (ae.C (⟨y0,y1⟩:ae)).toArray) w:=fun _=>by kernel_rfl
instance:AgC prog 125 2:=ag_i underlying125
def ae.eqb (x y:ae):Bool:=((x.fBa == y.fBa) && ((x.fDa == y.fDa) && true))
theorem eqr_125 (n:Nat) (x y:ae):EqR prog (n + 2) 125 (.agg (ae.C x).toArray) (.agg (ae.C y).toArray) (ae.eqb x y):=tS underlying125 (by kernel_rfl) (iU (by decide) (eZ eK.ok rfl) (eZ eK.ok rfl) (gI (n:=n + 0) underlying3) (iU (by decide) (eZ eK.ok rfl) (eZ eK.ok rfl) (gI (n:=n + 0) underlying3) eqf_nil))
theorem eqg_125:prog.eqGuardType prog.depth 125 = false:=by kernel_rfl
instance:InC prog 125 2:=tP
instance:BuC prog 125 [0,1] (fun
 | [.int .i64 y0,.int .i64 y1]=>some (.agg ⟨[.int .i64 y0,.int .i64 y1]⟩)
 | _=>none):=ly fun vs v e w=>by
 split at e <;> cases e
 kernel_rfl
def ae.D:List Value->Option ae | [.int .i64 y_0,.int .i64 y_1]=>some (⟨y_0,y_1⟩:ae) | _=>none
theorem dec_125:∀ l x,ae.D l = some x->l = ae.C x:=by
 intro l x e;unfold ae.D at e;split at e <;> cases e
 rfl
instance:EqC prog 125 ae.C ae.D ae.eqb:=⟨fun x y=>⟨eqg_125,eqr_125 9998 x y⟩,dec_125⟩
abbrev fU:Nat:=116
def bO (r:Sl):Value:=(sv r)
instance:ZeC prog 125 (.agg (ae.C (⟨0,0⟩:ae)).toArray):=ze_i
abbrev bg:Nat:=126
instance:EnC prog 116:=aN func116
abbrev fD:Nat:=72
theorem build_46  : ∀ w,(Instr.build 46 #[]).run prog w = .ok (.agg (aq.C (⟨false,0,0,0,0⟩:aq)).toArray) w:=fun _=>by kernel_rfl
instance:SlC prog 126 125 2:=sl_i underlying126
instance:FlC prog 56 2 163:=cz 96 underlying56
instance:ArC prog 52 4 51 24:=ar_i underlying52
instance:UnC prog 126 (.slice 125):=⟨underlying126⟩
instance:BuC prog 46 [] (fun
 | []=>some (.agg ⟨[.bool false,.int .i64 0,.int .i64 0,.int .i64 0,.int .i64 0]⟩)
 | _=>none):=ly fun vs v e w=>by
 split at e <;> cases e
 kernel_rfl
abbrev fW:Nat:=73
abbrev fC:Nat:=74
abbrev kZ:Nat:=75
abbrev mt:Nat:=76
instance:FlC prog 56 3 259:=cz 256 underlying56
instance:ArC prog 54 16 53 16:=ar_i underlying54
instance:ArC prog 53 16 30 1:=ar_i underlying53
abbrev fV:Nat:=77
instance:EnC prog 69:=aN func69
abbrev fe:Nat:=53
instance:EnC prog 22:=aN func22
instance:EnC prog 71:=aN func71
instance:EnC prog 73:=aN func73
instance:EnC prog 72:=aN func72
instance:EnC prog 74:=aN func74
instance:EnC prog 75:=aN func75
instance:EnC prog 77:=aN func77
instance:EnC prog 76:=aN func76
instance:EnC prog 70:=aN func70
abbrev gP:Nat:=33
abbrev kY:Nat:=56
abbrev ms:Nat:=58
instance:EnC prog 33:=aN func33
instance:EnC prog 58:=aN func58
instance:EnC prog 56:=aN func56
instance:EnC prog 31:=aN func31
abbrev jy:Nat:=17
instance:EnC prog 15:=aN func15
instance:EnC prog 17:=aN func17
instance:EnC prog 13:=aN func13
instance:EnC prog 12:=aN func12
instance:EnC prog 11:=aN func11
abbrev km:Nat:=23
abbrev oD:Nat:=24
instance:EnC prog 23:=aN func23
instance:EnC prog 24:=aN func24
abbrev kz:Nat:=4
def qA.get (x:qA) (i:Int):Ptr:=match i.toNat with | 0=>x.e0 | 1=>x.e1 | _=>x.e1
def str_73df774b:ByteArray:=⟨#[48,49,50,51,52,53,54,55,56,57,97,98,99,100,101,102,103,104,105,106,107,108,109,110,111,112,113,114,115,116,117,118,119,120,121,122]⟩
def str_e9752c08:ByteArray:=⟨#[48,48,48,49,48,50,48,51,48,52,48,53,48,54,48,55,48,56,48,57,49,48,49,49,49,50,49,51,49,52,49,53,49,54,49,55,49,56,49,57,50,48,50,49,50,50,50,51,50,52,50,53,50,54,50,55,50,56,50,57,51,48,51,49,51,50,51,51,51,52,51,53,51,54,51,55,51,56,51,57,52,48,52,49,52,50,52,51,52,52,52,53,52,54,52,55,52,56,52,57,53,48,53,49,53,50,53,51,53,52,53,53,53,54,53,55,53,56,53,57,54,48,54,49,54,50,54,51,54,52,54,53,54,54,54,55,54,56,54,57,55,48,55,49,55,50,55,51,55,52,55,53,55,54,55,55,55,56,55,57,56,48,56,49,56,50,56,51,56,52,56,53,56,54,56,55,56,56,56,57,57,48,57,49,57,50,57,51,57,52,57,53,57,54,57,55,57,56,57,57]⟩
abbrev iu:Nat:=261
abbrev rD:Nat:=262
instance:InC prog 5 1:=tP
abbrev oW:Nat:=263
def R_Suint8_string (r:Sl × ByteArray):Value:=.tuple #[(sv r.1),(.string r.2)]
def R_Suint8 (r:Sl):Value:=(sv r)
abbrev ro:Nat:=264
instance:EnC prog 261:=aN func261
instance:ZeC prog 334 (.agg [.int .u8 0,.int .u8 0,.int .u8 0,.int .u8 0,.int .u8 0,.int .u8 0,.int .u8 0,.int .u8 0,.int .u8 0,.int .u8 0,.int .u8 0,.int .u8 0,.int .u8 0,.int .u8 0,.int .u8 0,.int .u8 0,.int .u8 0,.int .u8 0,.int .u8 0,.int .u8 0,.int .u8 0,.int .u8 0,.int .u8 0,.int .u8 0].toArray):=ze_i
abbrev xf:Nat:=334
instance:ArC prog 334 24 5 1:=ar_i underlying334
instance:EnC prog 263:=aN func263
instance:EnC prog 262:=aN func262
instance:EnC prog 264:=aN func264
instance:UnC prog 2 (.int .i64):=⟨underlying2⟩
abbrev fE:Nat:=260
instance:EnC prog 260:=aN func260
abbrev iK:Nat:=259
instance:EnC prog 259:=aN func259
abbrev tF:Nat:=258
instance:EnC prog 258:=aN func258
abbrev hH:Nat:=255
abbrev tD:Nat:=256
abbrev na:Nat:=257
abbrev t_api_Pick:Nat:=34
abbrev t_api_Event:Nat:=68
abbrev t_api_Line:Nat:=66
abbrev t_uint64:Nat:=30
abbrev t_api_Answer:Nat:=64
abbrev eq:Nat:=132
abbrev tb:Nat:=113
abbrev oY:Nat:=125
abbrev dk:Nat:=167
abbrev t_api_Pte:Nat:=50
abbrev t_bool:Nat:=4
abbrev rL:Nat:=280
abbrev t_tlb_line:Nat:=175
end
section
open Go Mb
attribute [local irreducible] bM gR il Val Tx Tu Tn RV Res br nn ix gd ld st nw cl clv dL Lp ct
theorem ym:El prog kL t_api_Pick 10 80 [.int .i64 0,.int .i64 0,.int .i64 0,.int .u64 0,.int .u64 0,.int .u64 0,.int .u64 0,.int .u64 0,.int .i64 0,.int .i64 0]:=tT underlying24 (by kernel_rfl) rfl
theorem qy:El prog da t_api_Event 16 128 [.int .i64 0,.int .i64 0,.int .u64 0,.int .u64 0,.int .u64 0,.int .u64 0,.int .u64 0,.int .i64 0,.int .i64 0,.int .i64 0,.int .i64 0,.int .u64 0,.int .i64 0,.int .i64 0,.int .i64 0,.int .i64 0]:=tT underlying39 (by kernel_rfl) rfl
theorem jB:El prog aj kv 1 8 [.int .i64 0]:=tT underlying59 (by kernel_rfl) rfl
theorem el_Sapi_Line:El prog qI t_api_Line 4 32 [.int .i64 0,.int .i64 0,.int .i64 0,.int .i64 0]:=tT underlying70 (by kernel_rfl) rfl
theorem eX:El prog aG t_uint64 1 8 [.int .u64 0]:=tT underlying74 (by kernel_rfl) rfl
theorem el_Sapi_Answer:El prog mG t_api_Answer 2 16 [.int .i64 0,.int .u64 0]:=tT underlying97 (by kernel_rfl) rfl
theorem el_SPkern_call:El prog mH eq 1 8 [pv none]:=tT underlying109 (by kernel_rfl) rfl
theorem el_SPtlb_Tlb:El prog aZ tb 1 8 [pv none]:=tT underlying110 (by kernel_rfl) rfl
theorem wS:El prog bg oY 2 16 [.int .i64 0,.int .i64 0]:=tT underlying126 (by kernel_rfl) rfl
theorem wT:El prog dK dk 1 8 [pv none]:=tT underlying164 (by kernel_rfl) rfl
theorem uV:El prog pR aG 1 24 [sv (⟨none,0,0,none⟩:Sl)]:=tT underlying169 (by kernel_rfl) rfl
theorem tU:El prog ge so 2 16 [.int .i64 0,.int .i64 0]:=tT underlying208 (by kernel_rfl) rfl
theorem el_S_8_api_Cap:El prog t_S_8_api_Cap kM 32 256 [.int .i64 0,.int .i64 0,.int .i64 0,.int .i64 0,.int .i64 0,.int .i64 0,.int .i64 0,.int .i64 0,.int .i64 0,.int .i64 0,.int .i64 0,.int .i64 0,.int .i64 0,.int .i64 0,.int .i64 0,.int .i64 0,.int .i64 0,.int .i64 0,.int .i64 0,.int .i64 0,.int .i64 0,.int .i64 0,.int .i64 0,.int .i64 0,.int .i64 0,.int .i64 0,.int .i64 0,.int .i64 0,.int .i64 0,.int .i64 0,.int .i64 0,.int .i64 0]:=tT underlying217 (by kernel_rfl) rfl
theorem el_Sstring:El prog t_Sstring ta 1 16 [.string (⟨#[]⟩:ByteArray)]:=tT underlying226 (by kernel_rfl) rfl
theorem el_Sapi_Pte:El prog pQ t_api_Pte 3 24 [.int .i64 0,.int .i64 0,.int .i64 0]:=tT underlying246 (by kernel_rfl) rfl
theorem sk:iw prog mT:=z_j func98
theorem sj:iw prog rE:=z_j func100
theorem vD:iw prog lx:=z_j func189
theorem wR:iw prog fN:=z_j func206
theorem enter_hist_Over_c1:iw prog tI:=z_j func222
theorem mp_map_int_bool:Mp prog iD kv t_bool (.bool false):=⟨underlying151,⟨_,underlying3⟩,zero_of (by kernel_rfl)⟩
theorem mp_map_int_int:Mp prog gc kv kv (.int .i64 0):=⟨underlying152,⟨_,underlying3⟩,zero_of (by kernel_rfl)⟩
theorem agn_8_api_Pte:Ag prog uh 24:=⟨⟨_,underlying51,rfl⟩,rH (by kernel_rfl)⟩
theorem arn_8_api_Pte:prog.underlying uh = some (.array 8 t_api_Pte):=underlying51
theorem age_8_api_Pte:Ag prog t_api_Pte 3:=⟨⟨_,underlying50,rfl⟩,rH (by kernel_rfl)⟩
theorem arn_2_tlb_line:prog.underlying t_2_tlb_line = some (.array 2 t_tlb_line):=underlying176
theorem age_2_tlb_line:Ag prog t_tlb_line 5:=⟨⟨_,underlying175,rfl⟩,rH (by kernel_rfl)⟩
theorem agn_8_api_Cap:Ag prog kM 32:=⟨⟨_,underlying223,rfl⟩,rH (by kernel_rfl)⟩
theorem arn_8_api_Cap:prog.underlying kM = some (.array 8 eN):=underlying223
theorem age_8_api_Cap:Ag prog eN 4:=⟨⟨_,underlying42,rfl⟩,rH (by kernel_rfl)⟩
end
section
open Go Mb
attribute [local irreducible] bM gR il Val Tx Tu Tn RV Res br nn ix gd ld st nw cl clv dL Lp ct
def sh_tlb_empty (K:kT an):hT:=K (⟨(-1),0,0,0⟩:an)
theorem sim_tlb_empty {K:kT an} {h:Hp} (H:sh_tlb_empty K h):cl prog n_tlb_empty [] R_api_Line K h:=J [] func153 H
def cm:an:=((⟨(-1),0,0,0⟩:an))
theorem pr_tlb_empty {K:kT an} {h:Hp} (k:K (cm) h):sh_tlb_empty K h:=(fun k=>k) k
theorem ct_tlb_empty (h:Hp):Ct prog n_tlb_empty #[] h fun v h'=>∃ r,v = R_api_Line r/\(r = cm/\h' = h):=iV (sim_tlb_empty (pr_tlb_empty ⟨rfl,rfl⟩))
instance:PuC prog n_tlb_empty (fun
 | []=>some (R_api_Line cm)
 | _=>none) :=
 ⟨fun vs v h e=>by
  split at e <;> cases e;exact dC (ct_tlb_empty h)⟩
def sh_word_Kind (a0:aa) (K:kT (Int × Bool)):hT:=br (((decide (a0.e0 >= 1)) && (decide (a0.e0 <= 10))) || ((decide (a0.e0 >= 20)) && (decide (a0.e0 <= 23)))) ( K ((i64.wrap a0.e0),true)) ( K (0,false))
theorem sim_word_Kind (a0:aa) {K:kT (Int × Bool)} {h:Hp} (H:sh_word_Kind a0 K h):cl prog n_word_Kind [(.agg (aa.C a0).toArray)] aR K h:=J [] func78 H
def am (a0:aa):Int × Bool:=(bif (((decide (a0.e0 >= 1)) && (decide (a0.e0 <= 10))) || ((decide (a0.e0 >= 20)) && (decide (a0.e0 <= 23)))) then (((i64.wrap a0.e0),true)) else ((0,false)))
theorem pr_word_Kind (a0:aa) {K:kT (Int × Bool)} {h:Hp} (k:K (am a0) h):sh_word_Kind a0 K h:=(ga (K:=K) (fun k=>k) (fun k=>k)) k
theorem ct_word_Kind (a0:aa) (h:Hp):Ct prog n_word_Kind #[(.agg (aa.C a0).toArray)] h fun v h'=>∃ r,v = aR r/\(r = am a0/\h' = h):=iV (sim_word_Kind a0 (pr_word_Kind a0 ⟨rfl,rfl⟩))
instance:PuC prog n_word_Kind (fun
 | [.agg ⟨[.int .u64 y0_0,.int .u64 y0_1,.int .u64 y0_2,.int .u64 y0_3,.int .u64 y0_4]⟩]=>some (aR (am (⟨y0_0,y0_1,y0_2,y0_3,y0_4⟩:aa)))
 | _=>none) :=
 ⟨fun vs v h e=>by
  split at e <;> cases e;exact dC (ct_word_Kind _ h)⟩
def sh_word_User (a0:Int) (K:kT Bool):hT:=K ((decide (a0 >= 20)) && (decide (a0 <= 23)))
theorem sim_word_User (a0:Int) {K:kT Bool} {h:Hp} (H:sh_word_User a0 K h):cl prog n_word_User [(.int .i64 a0)] ai K h:=J [] func79 H
def aQ (a0:Int):Bool:=(((decide (a0 >= 20)) && (decide (a0 <= 23))))
theorem pr_word_User (a0:Int) {K:kT Bool} {h:Hp} (k:K (aQ a0) h):sh_word_User a0 K h:=(fun k=>k) k
theorem ct_word_User (a0:Int) (h:Hp):Ct prog n_word_User #[(.int .i64 a0)] h fun v h'=>∃ r,v = ai r/\(r = aQ a0/\h' = h):=iV (sim_word_User a0 (pr_word_User a0 ⟨rfl,rfl⟩))
instance:PuC prog n_word_User (fun
 | [.int .i64 y0]=>some (ai (aQ y0))
 | _=>none) :=
 ⟨fun vs v h e=>by
  split at e <;> cases e;exact dC (ct_word_User _ h)⟩
def sh_word_Rights (a0:Int) (K:kT (Int × Bool)):hT:=br ((decide (a0 < 1)) || (decide (a0 > 3))) ( K (0,false)) ( K ((i64.wrap a0),true))
theorem sim_word_Rights (a0:Int) {K:kT (Int × Bool)} {h:Hp} (H:sh_word_Rights a0 K h):cl prog vt [(.int .u64 a0)] aR K h:=J [] func196 H
def gt (a0:Int):Int × Bool:=(bif ((decide (a0 < 1)) || (decide (a0 > 3))) then ((0,false)) else (((i64.wrap a0),true)))
theorem pr_word_Rights (a0:Int) {K:kT (Int × Bool)} {h:Hp} (k:K (gt a0) h):sh_word_Rights a0 K h:=(ga (K:=K) (fun k=>k) (fun k=>k)) k
theorem ct_word_Rights (a0:Int) (h:Hp):Ct prog vt #[(.int .u64 a0)] h fun v h'=>∃ r,v = aR r/\(r = gt a0/\h' = h):=iV (sim_word_Rights a0 (pr_word_Rights a0 ⟨rfl,rfl⟩))
instance:PuC prog vt (fun
 | [.int .u64 y0]=>some (aR (gt y0))
 | _=>none) :=
 ⟨fun vs v h e=>by
  split at e <;> cases e;exact dC (ct_word_Rights _ h)⟩
def sh_table_is (a0:Int) (K:kT Bool):hT:=K ((decide (a0 >= 0)) && (decide (a0 < 8)))
theorem sim_table_is (a0:Int) {K:kT Bool} {h:Hp} (H:sh_table_is a0 K h):cl prog n_table_is [(.int .i64 a0)] ai K h:=J [] func156 H
def aK (a0:Int):Bool:=(((decide (a0 >= 0)) && (decide (a0 < 8))))
theorem pr_table_is (a0:Int) {K:kT Bool} {h:Hp} (k:K (aK a0) h):sh_table_is a0 K h:=(fun k=>k) k
theorem ct_table_is (a0:Int) (h:Hp):Ct prog n_table_is #[(.int .i64 a0)] h fun v h'=>∃ r,v = ai r/\(r = aK a0/\h' = h):=iV (sim_table_is a0 (pr_table_is a0 ⟨rfl,rfl⟩))
instance:PuC prog n_table_is (fun
 | [.int .i64 y0]=>some (ai (aK y0))
 | _=>none) :=
 ⟨fun vs v h e=>by
  split at e <;> cases e;exact dC (ct_table_is _ h)⟩
def sh_pte_May (a0:Int) (K:kT Bool):hT:=K ((decide (a0 >= 1)) && (decide (a0 <= 3)))
theorem sim_pte_May (a0:Int) {K:kT Bool} {h:Hp} (H:sh_pte_May a0 K h):cl prog n_pte_May [(.int .i64 a0)] ai K h:=J [] func171 H
def aS (a0:Int):Bool:=(((decide (a0 >= 1)) && (decide (a0 <= 3))))
theorem pr_pte_May (a0:Int) {K:kT Bool} {h:Hp} (k:K (aS a0) h):sh_pte_May a0 K h:=(fun k=>k) k
theorem ct_pte_May (a0:Int) (h:Hp):Ct prog n_pte_May #[(.int .i64 a0)] h fun v h'=>∃ r,v = ai r/\(r = aS a0/\h' = h):=iV (sim_pte_May a0 (pr_pte_May a0 ⟨rfl,rfl⟩))
instance:PuC prog n_pte_May (fun
 | [.int .i64 y0]=>some (ai (aS y0))
 | _=>none) :=
 ⟨fun vs v h e=>by
  split at e <;> cases e;exact dC (ct_pte_May _ h)⟩
def sh_pte_Within (a0:Int) (a1:Int) (K:kT Bool):hT:=K (((aS a0) && (aS a1)) && ((iandnot .i64 a0 a1) == 0))
theorem sim_pte_Within (a0:Int) (a1:Int) {K:kT Bool} {h:Hp} (H:sh_pte_Within a0 a1 K h):cl prog xU [(.int .i64 a0),(.int .i64 a1)] ai K h:=J [] func123 H
def ap (a0:Int) (a1:Int):Bool:=((((aS a0) && (aS a1)) && ((iandnot .i64 a0 a1) == 0)))
theorem pr_pte_Within (a0:Int) (a1:Int) {K:kT Bool} {h:Hp} (k:K (ap a0 a1) h):sh_pte_Within a0 a1 K h:=(fun k=>k) k
theorem ct_pte_Within (a0:Int) (a1:Int) (h:Hp):Ct prog xU #[(.int .i64 a0),(.int .i64 a1)] h fun v h'=>∃ r,v = ai r/\(r = ap a0 a1/\h' = h):=iV (sim_pte_Within a0 a1 (pr_pte_Within a0 a1 ⟨rfl,rfl⟩))
instance:PuC prog xU (fun
 | [.int .i64 y0,.int .i64 y1]=>some (ai (ap y0 y1))
 | _=>none) :=
 ⟨fun vs v h e=>by
  split at e <;> cases e;exact dC (ct_pte_Within _ _ h)⟩
def sh_pte_Put (a0:ak) (K:kT (Int × Bool)):hT:=br (ak.eqb a0 (⟨0,0,0⟩:ak)) ( K (0,true)) ( br (((((decide (a0.fEa < 0)) || (decide (a0.fEa >= 16))) || (decide (a0.fDa < 0))) || (decide (a0.fDa >= 8))) || (!(aS a0.fCa))) ( K (0,false)) ( K ((u64.wrap (i64.wrap ((i64.wrap ((i64.wrap (32768 + (i64.wrap (256 * a0.fEa)))) + (i64.wrap (16 * a0.fDa)))) + a0.fCa))),true)))
theorem sim_pte_Put (a0:ak) {K:kT (Int × Bool)} {h:Hp} (H:sh_pte_Put a0 K h):cl prog n_pte_Put [(.agg (ak.C a0).toArray)] aU K h:=J [] func161 H
def cK (a0:ak):Int × Bool:=(bif (ak.eqb a0 (⟨0,0,0⟩:ak)) then ((0,true)) else (bif (((((decide (a0.fEa < 0)) || (decide (a0.fEa >= 16))) || (decide (a0.fDa < 0))) || (decide (a0.fDa >= 8))) || (!(aS a0.fCa))) then ((0,false)) else (((u64.wrap (i64.wrap ((i64.wrap ((i64.wrap (32768 + (i64.wrap (256 * a0.fEa)))) + (i64.wrap (16 * a0.fDa)))) + a0.fCa))),true))))
theorem pr_pte_Put (a0:ak) {K:kT (Int × Bool)} {h:Hp} (k:K (cK a0) h):sh_pte_Put a0 K h:=(ga (K:=K) (fun k=>k) (ga (K:=K) (fun k=>k) (fun k=>k))) k
theorem ct_pte_Put (a0:ak) (h:Hp):Ct prog n_pte_Put #[(.agg (ak.C a0).toArray)] h fun v h'=>∃ r,v = aU r/\(r = cK a0/\h' = h):=iV (sim_pte_Put a0 (pr_pte_Put a0 ⟨rfl,rfl⟩))
instance:PuC prog n_pte_Put (fun
 | [.agg ⟨[.int .i64 y0_0,.int .i64 y0_1,.int .i64 y0_2]⟩]=>some (aU (cK (⟨y0_0,y0_1,y0_2⟩:ak)))
 | _=>none) :=
 ⟨fun vs v h e=>by
  split at e <;> cases e;exact dC (ct_pte_Put _ h)⟩
def sh_pte_Lets (a0:Int) (a1:Int) (K:kT Bool):hT:=br (a1 == 20) ( K (ap 1 a0)) ( br (a1 == 21) ( K (ap 2 a0)) ( br (a1 == 22) ( K (ap 3 a0)) ( br (a1 == 23) ( K (ap 3 a0)) ( K (ap 0 a0)))))
theorem sim_pte_Lets (a0:Int) (a1:Int) {K:kT Bool} {h:Hp} (H:sh_pte_Lets a0 a1 K h):cl prog n_pte_Lets [(.int .i64 a0),(.int .i64 a1)] ai K h:=J [] func163 H
def bk (a0:Int) (a1:Int):Bool:=(bif (a1 == 20) then ((ap 1 a0)) else (bif (a1 == 21) then ((ap 2 a0)) else (bif (a1 == 22) then ((ap 3 a0)) else (bif (a1 == 23) then ((ap 3 a0)) else ((ap 0 a0))))))
theorem pr_pte_Lets (a0:Int) (a1:Int) {K:kT Bool} {h:Hp} (k:K (bk a0 a1) h):sh_pte_Lets a0 a1 K h:=(ga (K:=K) (fun k=>k) (ga (K:=K) (fun k=>k) (ga (K:=K) (fun k=>k) (ga (K:=K) (fun k=>k) (fun k=>k))))) k
theorem ct_pte_Lets (a0:Int) (a1:Int) (h:Hp):Ct prog n_pte_Lets #[(.int .i64 a0),(.int .i64 a1)] h fun v h'=>∃ r,v = ai r/\(r = bk a0 a1/\h' = h):=iV (sim_pte_Lets a0 a1 (pr_pte_Lets a0 a1 ⟨rfl,rfl⟩))
instance:PuC prog n_pte_Lets (fun
 | [.int .i64 y0,.int .i64 y1]=>some (ai (bk y0 y1))
 | _=>none) :=
 ⟨fun vs v h e=>by
  split at e <;> cases e;exact dC (ct_pte_Lets _ _ h)⟩
def se (a0:Int) (K:kT Bool):hT:=K (a0 != a0)
theorem sim_cmp_isNaN_uint64 (a0:Int) {K:kT Bool} {h:Hp} (H:se a0 K h):cl prog nl [(.int .u64 a0)] ai K h:=J [] func220 H
def cW (a0:Int):Bool:=((a0 != a0))
theorem pr_cmp_isNaN_uint64 (a0:Int) {K:kT Bool} {h:Hp} (k:K (cW a0) h):se a0 K h:=(fun k=>k) k
theorem ct_cmp_isNaN_uint64 (a0:Int) (h:Hp):Ct prog nl #[(.int .u64 a0)] h fun v h'=>∃ r,v = ai r/\(r = cW a0/\h' = h):=iV (sim_cmp_isNaN_uint64 a0 (pr_cmp_isNaN_uint64 a0 ⟨rfl,rfl⟩))
instance:PuC prog nl (fun
 | [.int .u64 y0]=>some (ai (cW y0))
 | _=>none) :=
 ⟨fun vs v h e=>by
  split at e <;> cases e;exact dC (ct_cmp_isNaN_uint64 _ h)⟩
def tv (a0:Int) (a1:Int) (K:kT Bool):hT:=K (((cW a0) && (!(cW a1))) || (decide (a0 < a1)))
theorem sim_cmp_Less_uint64 (a0:Int) (a1:Int) {K:kT Bool} {h:Hp} (H:tv a0 a1 K h):cl prog oI [(.int .u64 a0),(.int .u64 a1)] ai K h:=J [] func198 H
def eP (a0:Int) (a1:Int):Bool:=((((cW a0) && (!(cW a1))) || (decide (a0 < a1))))
theorem pr_cmp_Less_uint64 (a0:Int) (a1:Int) {K:kT Bool} {h:Hp} (k:K (eP a0 a1) h):tv a0 a1 K h:=(fun k=>k) k
theorem ct_cmp_Less_uint64 (a0:Int) (a1:Int) (h:Hp):Ct prog oI #[(.int .u64 a0),(.int .u64 a1)] h fun v h'=>∃ r,v = ai r/\(r = eP a0 a1/\h' = h):=iV (sim_cmp_Less_uint64 a0 a1 (pr_cmp_Less_uint64 a0 a1 ⟨rfl,rfl⟩))
instance:PuC prog oI (fun
 | [.int .u64 y0,.int .u64 y1]=>some (ai (eP y0 y1))
 | _=>none) :=
 ⟨fun vs v h e=>by
  split at e <;> cases e;exact dC (ct_cmp_Less_uint64 _ _ h)⟩
def nX (a0:Int) (K:kT Bool):hT:=K (a0 != a0)
theorem vZ (a0:Int) {K:kT Bool} {h:Hp} (H:nX a0 K h):cl prog ki [(.int .u64 a0)] ai K h:=J [] func199 H
def dr (a0:Int):Bool:=((a0 != a0))
theorem xL (a0:Int) {K:kT Bool} {h:Hp} (k:K (dr a0) h):nX a0 K h:=(fun k=>k) k
theorem yn (a0:Int) (h:Hp):Ct prog ki #[(.int .u64 a0)] h fun v h'=>∃ r,v = ai r/\(r = dr a0/\h' = h):=iV (vZ a0 (xL a0 ⟨rfl,rfl⟩))
instance:PuC prog ki (fun
 | [.int .u64 y0]=>some (ai (dr y0))
 | _=>none) :=
 ⟨fun vs v h e=>by
  split at e <;> cases e;exact dC (yn _ h)⟩
def sh_plain_fails (a0:Int) (K:kT (ad × Bool)):hT:=K ((⟨a0,0⟩:ad),true)
theorem sim_plain_fails (a0:Int) {K:kT (ad × Bool)} {h:Hp} (H:sh_plain_fails a0 K h):cl prog vv [(.int .i64 a0)] aD K h:=J [] func129 H
def be (a0:Int):ad × Bool:=(((⟨a0,0⟩:ad),true))
theorem pr_plain_fails (a0:Int) {K:kT (ad × Bool)} {h:Hp} (k:K (be a0) h):sh_plain_fails a0 K h:=(fun k=>k) k
theorem ct_plain_fails (a0:Int) (h:Hp):Ct prog vv #[(.int .i64 a0)] h fun v h'=>∃ r,v = aD r/\(r = be a0/\h' = h):=iV (sim_plain_fails a0 (pr_plain_fails a0 ⟨rfl,rfl⟩))
instance:PuC prog vv (fun
 | [.int .i64 y0]=>some (aD (be y0))
 | _=>none) :=
 ⟨fun vs v h e=>by
  split at e <;> cases e;exact dC (ct_plain_fails _ h)⟩
def sh_pred_Holds (a0:Int) (a1:Int) (a2:Int) (K:kT Bool):hT:=br (a0 == 1) ( K (a1 == a2)) ( br (a0 == 2) ( K (a1 != a2)) ( br (a0 == 3) ( K (decide (a1 < a2))) ( br (a0 == 4) ( K (decide (a1 > a2))) ( K false))))
theorem sim_pred_Holds (a0:Int) (a1:Int) (a2:Int) {K:kT Bool} {h:Hp} (H:sh_pred_Holds a0 a1 a2 K h):cl prog xV [(.int .i64 a0),(.int .u64 a1),(.int .u64 a2)] ai K h:=J [] func148 H
def eo (a0:Int) (a1:Int) (a2:Int):Bool:=(bif (a0 == 1) then ((a1 == a2)) else (bif (a0 == 2) then ((a1 != a2)) else (bif (a0 == 3) then ((decide (a1 < a2))) else (bif (a0 == 4) then ((decide (a1 > a2))) else (false)))))
theorem pr_pred_Holds (a0:Int) (a1:Int) (a2:Int) {K:kT Bool} {h:Hp} (k:K (eo a0 a1 a2) h):sh_pred_Holds a0 a1 a2 K h:=(ga (K:=K) (fun k=>k) (ga (K:=K) (fun k=>k) (ga (K:=K) (fun k=>k) (ga (K:=K) (fun k=>k) (fun k=>k))))) k
theorem ct_pred_Holds (a0:Int) (a1:Int) (a2:Int) (h:Hp):Ct prog xV #[(.int .i64 a0),(.int .u64 a1),(.int .u64 a2)] h fun v h'=>∃ r,v = ai r/\(r = eo a0 a1 a2/\h' = h):=iV (sim_pred_Holds a0 a1 a2 (pr_pred_Holds a0 a1 a2 ⟨rfl,rfl⟩))
instance:PuC prog xV (fun
 | [.int .i64 y0,.int .u64 y1,.int .u64 y2]=>some (ai (eo y0 y1 y2))
 | _=>none) :=
 ⟨fun vs v h e=>by
  split at e <;> cases e;exact dC (ct_pred_Holds _ _ _ h)⟩
def sh_hist_one (a0:ax) (a1:ao) (a2:Int) (K:kT Bool):hT:=br (((((decide (a0.fOa < 0)) || (decide (a0.fOa >= a1.fRa))) || (decide (a0.fBa < 0))) || (decide (a0.fBa >= a1.fHa))) || (decide (a0.fTa <= a2))) ( K false) ( br (a0.fIa == 0) ( K (a0.fXa == 0)) ( K ((decide (a0.fIa >= a0.fTa)) && ((a0.fXa == 0) || (decide (a0.fXa >= a0.fIa))))))
theorem sim_hist_one (a0:ax) (a1:ao) (a2:Int) {K:kT Bool} {h:Hp} (H:sh_hist_one a0 a1 a2 K h):cl prog n_hist_one [(.agg (ax.C a0).toArray),(.agg (ao.C a1).toArray),(.int .i64 a2)] ai K h:=J [] func96 H
def dD (a0:ax) (a1:ao) (a2:Int):Bool:=(bif (((((decide (a0.fOa < 0)) || (decide (a0.fOa >= a1.fRa))) || (decide (a0.fBa < 0))) || (decide (a0.fBa >= a1.fHa))) || (decide (a0.fTa <= a2))) then (false) else (bif (a0.fIa == 0) then ((a0.fXa == 0)) else (((decide (a0.fIa >= a0.fTa)) && ((a0.fXa == 0) || (decide (a0.fXa >= a0.fIa)))))))
theorem pr_hist_one (a0:ax) (a1:ao) (a2:Int) {K:kT Bool} {h:Hp} (k:K (dD a0 a1 a2) h):sh_hist_one a0 a1 a2 K h:=(ga (K:=K) (fun k=>k) (ga (K:=K) (fun k=>k) (fun k=>k))) k
theorem ct_hist_one (a0:ax) (a1:ao) (a2:Int) (h:Hp):Ct prog n_hist_one #[(.agg (ax.C a0).toArray),(.agg (ao.C a1).toArray),(.int .i64 a2)] h fun v h'=>∃ r,v = ai r/\(r = dD a0 a1 a2/\h' = h):=iV (sim_hist_one a0 a1 a2 (pr_hist_one a0 a1 a2 ⟨rfl,rfl⟩))
def wz (a0:ax) (K:kT Bool):hT:=K (decide (a0.fIa > 0))
theorem sim_hist_Order_c1 (a0:ax) {K:kT Bool} {h:Hp} (H:wz a0 K h):cl prog mT [(.agg (ax.C a0).toArray)] ai K h:=J [] func98 H
def wG (a0:ax):Bool:=((decide (a0.fIa > 0)))
theorem pr_hist_Order_c1 (a0:ax) {K:kT Bool} {h:Hp} (k:K (wG a0) h):wz a0 K h:=(fun k=>k) k
theorem wU (a0:ax) (h:Hp):Ct prog mT #[(.agg (ax.C a0).toArray)] h fun v h'=>∃ r,v = ai r/\(r = wG a0/\h' = h):=iV (sim_hist_Order_c1 a0 (pr_hist_Order_c1 a0 ⟨rfl,rfl⟩))
def wA (a0:Int) (K:kT Bool):hT:=K (a0 != a0)
theorem sim_cmp_isNaN_int (a0:Int) {K:kT Bool} {h:Hp} (H:wA a0 K h):cl prog rF [(.int .i64 a0)] ai K h:=J [] func152 H
def cR (a0:Int):Bool:=((a0 != a0))
theorem pr_cmp_isNaN_int (a0:Int) {K:kT Bool} {h:Hp} (k:K (cR a0) h):wA a0 K h:=(fun k=>k) k
theorem ct_cmp_isNaN_int (a0:Int) (h:Hp):Ct prog rF #[(.int .i64 a0)] h fun v h'=>∃ r,v = ai r/\(r = cR a0/\h' = h):=iV (sim_cmp_isNaN_int a0 (pr_cmp_isNaN_int a0 ⟨rfl,rfl⟩))
instance:PuC prog rF (fun
 | [.int .i64 y0]=>some (ai (cR y0))
 | _=>none) :=
 ⟨fun vs v h e=>by
  split at e <;> cases e;exact dC (ct_cmp_isNaN_int _ h)⟩
def tw (a0:Int) (a1:Int) (K:kT Int):hT:=br (cR a0) ( br (cR a1) ( K 0) ( K (-1))) ( br (cR a1) ( K 1) ( br (decide (a0 < a1)) ( K (-1)) ( br (decide (a0 > a1)) ( K 1) ( K 0))))
theorem sim_cmp_Compare_int (a0:Int) (a1:Int) {K:kT Int} {h:Hp} (H:tw a0 a1 K h):cl prog oJ [(.int .i64 a0),(.int .i64 a1)] cH K h:=J [] func101 H
def eQ (a0:Int) (a1:Int):Int:=(bif (cR a0) then (bif (cR a1) then (0) else ((-1))) else (bif (cR a1) then (1) else (bif (decide (a0 < a1)) then ((-1)) else (bif (decide (a0 > a1)) then (1) else (0)))))
theorem pr_cmp_Compare_int (a0:Int) (a1:Int) {K:kT Int} {h:Hp} (k:K (eQ a0 a1) h):tw a0 a1 K h:=(ga (K:=K) (ga (K:=K) (fun k=>k) (fun k=>k)) (ga (K:=K) (fun k=>k) (ga (K:=K) (fun k=>k) (ga (K:=K) (fun k=>k) (fun k=>k))))) k
theorem ct_cmp_Compare_int (a0:Int) (a1:Int) (h:Hp):Ct prog oJ #[(.int .i64 a0),(.int .i64 a1)] h fun v h'=>∃ r,v = cH r/\(r = eQ a0 a1/\h' = h):=iV (sim_cmp_Compare_int a0 a1 (pr_cmp_Compare_int a0 a1 ⟨rfl,rfl⟩))
instance:PuC prog oJ (fun
 | [.int .i64 y0,.int .i64 y1]=>some (cH (eQ y0 y1))
 | _=>none) :=
 ⟨fun vs v h e=>by
  split at e <;> cases e;exact dC (ct_cmp_Compare_int _ _ h)⟩
def sh_judge_user (a0:ax) (K:kT Bool):hT:=K (aQ ((am a0.fJa).1))
theorem sim_judge_user (a0:ax) {K:kT Bool} {h:Hp} (H:sh_judge_user a0 K h):cl prog xY [(.agg (ax.C a0).toArray)] ai K h:=J [] func139 H
def bQ (a0:ax):Bool:=((aQ ((am a0.fJa).1)))
theorem pr_judge_user (a0:ax) {K:kT Bool} {h:Hp} (k:K (bQ a0) h):sh_judge_user a0 K h:=(fun k=>k) k
theorem ct_judge_user (a0:ax) (h:Hp):Ct prog xY #[(.agg (ax.C a0).toArray)] h fun v h'=>∃ r,v = ai r/\(r = bQ a0/\h' = h):=iV (sim_judge_user a0 (pr_judge_user a0 ⟨rfl,rfl⟩))
instance:PuC prog xY (fun
 | [.agg ⟨[.int .i64 y0_0,.int .i64 y0_1,.int .u64 y0_2_0,.int .u64 y0_2_1,.int .u64 y0_2_2,.int .u64 y0_2_3,.int .u64 y0_2_4,.int .i64 y0_3,.int .i64 y0_4,.int .i64 y0_5,.int .i64 y0_6_0,.int .u64 y0_6_1,.int .i64 y0_7_0,.int .i64 y0_7_1,.int .i64 y0_7_2,.int .i64 y0_7_3]⟩]=>some (ai (bQ (⟨y0_0,y0_1,(⟨y0_2_0,y0_2_1,y0_2_2,y0_2_3,y0_2_4⟩:aa),y0_3,y0_4,y0_5,(⟨y0_6_0,y0_6_1⟩:ad),(⟨y0_7_0,y0_7_1,y0_7_2,y0_7_3⟩:an)⟩:ax)))
 | _=>none) :=
 ⟨fun vs v h e=>by
  split at e <;> cases e;exact dC (ct_judge_user _ h)⟩
def pz (a0:ao) (K:kT ao):hT:=K (⟨(i64.wrap (1 + ((i64.wrap ((a0.fRa.tmod 4) + 4)).tmod 4))),(i64.wrap (1 + ((i64.wrap ((a0.fHa.tmod 3) + 3)).tmod 3))),(i64.wrap (1 + ((i64.wrap ((a0.fUa.tmod 6) + 6)).tmod 6)))⟩:ao)
theorem xz (a0:ao) {K:kT ao} {h:Hp} (H:pz a0 K h):cl prog lj [(.agg (ao.C a0).toArray)] R_api_Size K h:=J [] func12 H
def bb (a0:ao):ao:=((⟨(i64.wrap (1 + ((i64.wrap ((a0.fRa.tmod 4) + 4)).tmod 4))),(i64.wrap (1 + ((i64.wrap ((a0.fHa.tmod 3) + 3)).tmod 3))),(i64.wrap (1 + ((i64.wrap ((a0.fUa.tmod 6) + 6)).tmod 6)))⟩:ao))
theorem pr_messuagelaw16_Size (a0:ao) {K:kT ao} {h:Hp} (k:K (bb a0) h):pz a0 K h:=(fun k=>k) k
theorem ct_messuagelaw16_Size (a0:ao) (h:Hp):Ct prog lj #[(.agg (ao.C a0).toArray)] h fun v h'=>∃ r,v = R_api_Size r/\(r = bb a0/\h' = h):=iV (xz a0 (pr_messuagelaw16_Size a0 ⟨rfl,rfl⟩))
instance:PuC prog lj (fun
 | [.agg ⟨[.int .i64 y0_0,.int .i64 y0_1,.int .i64 y0_2]⟩]=>some (R_api_Size (bb (⟨y0_0,y0_1,y0_2⟩:ao)))
 | _=>none) :=
 ⟨fun vs v h e=>by
  split at e <;> cases e;exact dC (ct_messuagelaw16_Size _ h)⟩
def qZ (a0:aa) (K:kT (Int × Bool)):hT:=br (((decide (a0.e0 >= 1)) && (decide (a0.e0 <= 10))) || ((decide (a0.e0 >= 20)) && (decide (a0.e0 <= 23)))) ( K ((i64.wrap a0.e0),true)) ( K (0,false))
theorem sim_messuageref2_Kind (a0:aa) {K:kT (Int × Bool)} {h:Hp} (H:qZ a0 K h):cl prog mu [(.agg (aa.C a0).toArray)] aR K h:=J [] func57 H
def aB (a0:aa):Int × Bool:=(bif (((decide (a0.e0 >= 1)) && (decide (a0.e0 <= 10))) || ((decide (a0.e0 >= 20)) && (decide (a0.e0 <= 23)))) then (((i64.wrap a0.e0),true)) else ((0,false)))
theorem pr_messuageref2_Kind (a0:aa) {K:kT (Int × Bool)} {h:Hp} (k:K (aB a0) h):qZ a0 K h:=(ga (K:=K) (fun k=>k) (fun k=>k)) k
theorem ct_messuageref2_Kind (a0:aa) (h:Hp):Ct prog mu #[(.agg (aa.C a0).toArray)] h fun v h'=>∃ r,v = aR r/\(r = aB a0/\h' = h):=iV (sim_messuageref2_Kind a0 (pr_messuageref2_Kind a0 ⟨rfl,rfl⟩))
instance:PuC prog mu (fun
 | [.agg ⟨[.int .u64 y0_0,.int .u64 y0_1,.int .u64 y0_2,.int .u64 y0_3,.int .u64 y0_4]⟩]=>some (aR (aB (⟨y0_0,y0_1,y0_2,y0_3,y0_4⟩:aa)))
 | _=>none) :=
 ⟨fun vs v h e=>by
  split at e <;> cases e;exact dC (ct_messuageref2_Kind _ h)⟩
def ra (a0:Int) (K:kT (ad × Bool)):hT:=K ((⟨a0,0⟩:ad),true)
theorem sim_messuageref13_err (a0:Int) {K:kT (ad × Bool)} {h:Hp} (H:ra a0 K h):cl prog mv [(.int .i64 a0)] aD K h:=J [] func69 H
def az (a0:Int):ad × Bool:=(((⟨a0,0⟩:ad),true))
theorem pr_messuageref13_err (a0:Int) {K:kT (ad × Bool)} {h:Hp} (k:K (az a0) h):ra a0 K h:=(fun k=>k) k
theorem ct_messuageref13_err (a0:Int) (h:Hp):Ct prog mv #[(.int .i64 a0)] h fun v h'=>∃ r,v = aD r/\(r = az a0/\h' = h):=iV (sim_messuageref13_err a0 (pr_messuageref13_err a0 ⟨rfl,rfl⟩))
instance:PuC prog mv (fun
 | [.int .i64 y0]=>some (aD (az y0))
 | _=>none) :=
 ⟨fun vs v h e=>by
  split at e <;> cases e;exact dC (ct_messuageref13_err _ h)⟩
def rV (a0:Int) (K:kT Bool):hT:=K ((decide (a0 >= 1)) && (decide (a0 <= 3)))
theorem sim_messuageref2_May (a0:Int) {K:kT Bool} {h:Hp} (H:rV a0 K h):cl prog nh [(.int .i64 a0)] ai K h:=J [] func66 H
def cd (a0:Int):Bool:=(((decide (a0 >= 1)) && (decide (a0 <= 3))))
theorem pr_messuageref2_May (a0:Int) {K:kT Bool} {h:Hp} (k:K (cd a0) h):rV a0 K h:=(fun k=>k) k
theorem ct_messuageref2_May (a0:Int) (h:Hp):Ct prog nh #[(.int .i64 a0)] h fun v h'=>∃ r,v = ai r/\(r = cd a0/\h' = h):=iV (sim_messuageref2_May a0 (pr_messuageref2_May a0 ⟨rfl,rfl⟩))
instance:PuC prog nh (fun
 | [.int .i64 y0]=>some (ai (cd y0))
 | _=>none) :=
 ⟨fun vs v h e=>by
  split at e <;> cases e;exact dC (ct_messuageref2_May _ h)⟩
def oa (a0:Int) (a1:Int) (K:kT Bool):hT:=K ((((cd a0) && (cd a1)) && (((a0.tmod 2) == 0) || ((a1.tmod 2) == 1))) && ((decide (a0 < 2)) || (decide (a1 >= 2))))
theorem wc (a0:Int) (a1:Int) {K:kT Bool} {h:Hp} (H:oa a0 a1 K h):cl prog kl [(.int .i64 a0),(.int .i64 a1)] ai K h:=J [] func25 H
def bp (a0:Int) (a1:Int):Bool:=(((((cd a0) && (cd a1)) && (((a0.tmod 2) == 0) || ((a1.tmod 2) == 1))) && ((decide (a0 < 2)) || (decide (a1 >= 2)))))
theorem xM (a0:Int) (a1:Int) {K:kT Bool} {h:Hp} (k:K (bp a0 a1) h):oa a0 a1 K h:=(fun k=>k) k
theorem yo (a0:Int) (a1:Int) (h:Hp):Ct prog kl #[(.int .i64 a0),(.int .i64 a1)] h fun v h'=>∃ r,v = ai r/\(r = bp a0 a1/\h' = h):=iV (wc a0 a1 (xM a0 a1 ⟨rfl,rfl⟩))
instance:PuC prog kl (fun
 | [.int .i64 y0,.int .i64 y1]=>some (ai (bp y0 y1))
 | _=>none) :=
 ⟨fun vs v h e=>by
  split at e <;> cases e;exact dC (yo _ _ h)⟩
def pn (a0:Int) (a1:Int) (a2:Int) (K:kT Bool):hT:=br (a0 == 1) ( K (a1 == a2)) ( br (a0 == 2) ( K (a1 != a2)) ( br (a0 == 3) ( K (decide (a1 < a2))) ( br (a0 == 4) ( K (decide (a2 < a1))) ( K false))))
theorem xt (a0:Int) (a1:Int) (a2:Int) {K:kT Bool} {h:Hp} (H:pn a0 a1 a2 K h):cl prog kZ [(.int .i64 a0),(.int .u64 a1),(.int .u64 a2)] ai K h:=J [] func75 H
def eM (a0:Int) (a1:Int) (a2:Int):Bool:=(bif (a0 == 1) then ((a1 == a2)) else (bif (a0 == 2) then ((a1 != a2)) else (bif (a0 == 3) then ((decide (a1 < a2))) else (bif (a0 == 4) then ((decide (a2 < a1))) else (false)))))
theorem pr_messuageref2_Holds (a0:Int) (a1:Int) (a2:Int) {K:kT Bool} {h:Hp} (k:K (eM a0 a1 a2) h):pn a0 a1 a2 K h:=(ga (K:=K) (fun k=>k) (ga (K:=K) (fun k=>k) (ga (K:=K) (fun k=>k) (ga (K:=K) (fun k=>k) (fun k=>k))))) k
theorem ct_messuageref2_Holds (a0:Int) (a1:Int) (a2:Int) (h:Hp):Ct prog kZ #[(.int .i64 a0),(.int .u64 a1),(.int .u64 a2)] h fun v h'=>∃ r,v = ai r/\(r = eM a0 a1 a2/\h' = h):=iV (xt a0 a1 a2 (pr_messuageref2_Holds a0 a1 a2 ⟨rfl,rfl⟩))
instance:PuC prog kZ (fun
 | [.int .i64 y0,.int .u64 y1,.int .u64 y2]=>some (ai (eM y0 y1 y2))
 | _=>none) :=
 ⟨fun vs v h e=>by
  split at e <;> cases e;exact dC (ct_messuageref2_Holds _ _ _ h)⟩
def qX (a0:Int) (K:kT Bool):hT:=K ((decide (a0 >= 20)) && (decide (a0 <= 23)))
theorem sim_messuageref2_User (a0:Int) {K:kT Bool} {h:Hp} (H:qX a0 K h):cl prog ms [(.int .i64 a0)] ai K h:=J [] func58 H
def dQ (a0:Int):Bool:=(((decide (a0 >= 20)) && (decide (a0 <= 23))))
theorem pr_messuageref2_User (a0:Int) {K:kT Bool} {h:Hp} (k:K (dQ a0) h):qX a0 K h:=(fun k=>k) k
theorem ct_messuageref2_User (a0:Int) (h:Hp):Ct prog ms #[(.int .i64 a0)] h fun v h'=>∃ r,v = ai r/\(r = dQ a0/\h' = h):=iV (sim_messuageref2_User a0 (pr_messuageref2_User a0 ⟨rfl,rfl⟩))
instance:PuC prog ms (fun
 | [.int .i64 y0]=>some (ai (dQ y0))
 | _=>none) :=
 ⟨fun vs v h e=>by
  split at e <;> cases e;exact dC (ct_messuageref2_User _ h)⟩
def oe (a0:aa) (K:kT Bool):hT:=K ((((a0.e0 == 7) || (a0.e0 == 8)) || (a0.e0 == 4)) || (a0.e0 == 5))
theorem wd (a0:aa) {K:kT Bool} {h:Hp} (H:oe a0 K h):cl prog km [(.agg (aa.C a0).toArray)] ai K h:=J [] func23 H
def fS (a0:aa):Bool:=(((((a0.e0 == 7) || (a0.e0 == 8)) || (a0.e0 == 4)) || (a0.e0 == 5)))
theorem xN (a0:aa) {K:kT Bool} {h:Hp} (k:K (fS a0) h):oe a0 K h:=(fun k=>k) k
theorem yp (a0:aa) (h:Hp):Ct prog km #[(.agg (aa.C a0).toArray)] h fun v h'=>∃ r,v = ai r/\(r = fS a0/\h' = h):=iV (wd a0 (xN a0 ⟨rfl,rfl⟩))
instance:PuC prog km (fun
 | [.agg ⟨[.int .u64 y0_0,.int .u64 y0_1,.int .u64 y0_2,.int .u64 y0_3,.int .u64 y0_4]⟩]=>some (ai (fS (⟨y0_0,y0_1,y0_2,y0_3,y0_4⟩:aa)))
 | _=>none) :=
 ⟨fun vs v h e=>by
  split at e <;> cases e;exact dC (yp _ h)⟩
end
section
open Go Mb
attribute [local irreducible] bM gR il Val Tx Tu Tn RV Res br nn ix gd ld st nw cl clv dL Lp ct
def sh_pool_New (a0:Int) (K:kT Ptr):hT:=br ((decide (a0 < 1)) || (decide (a0 > 16))) ( K none) ( hpv prog (Instr.makeSlice aj (.int .i64 a0) (.int .i64 a0)) av fun (v10:Sl)=>nw qF (nL.C (⟨v10⟩:nL)) fun b12=>K (some (b12,0)))
theorem sim_pool_New (a0:Int) {K:kT Ptr} {h:Hp} (H:sh_pool_New a0 K h):cl prog xW [(.int .i64 a0)] sN K h:=J [] func104 H
def ul (a0:Ptr) (K:kT (Int × Bool)):hT:=br a0.isNone ( K (0,false)) ( nn a0 fun q8=>ld (q8.1,q8.2 + 0) cS fun x10=>cl prog jv [(sv x10),(.int .i64 0)] cH fun r11=>br (decide (r11 < 0)) ( K (0,false)) ( ld (q8.1,q8.2 + 0) cS fun x17=>ix x17 r11 fun q19=>st (q19.1,q19.2 + Int.toNat r11 * 1) [.int .i64 1]<|K (r11,true)))
theorem sim_pool_Pool_Take (a0:Ptr) {K:kT (Int × Bool)} {h:Hp} (H:ul a0 K h):cl prog iI [(pv a0)] aR K h:=J [] func175 H
def um (a0:Ptr) (a1:Int) (K:kT Int):hT:=br (!(a0.isNone || (decide (a1 < 0)))) ( nn a0 fun q14=>ld (q14.1,q14.2 + 0) cS fun x16=>br (decide (a1 >= (x16.len:Int))) ( K 0) ( ld (q14.1,q14.2 + 0) cS fun x23=>ix x23 a1 fun q25=>ld (q25.1,q25.2 + Int.toNat a1 * 1) (cI .i64) fun x26=>K x26)) ( K 0)
theorem sim_pool_Pool_Refs (a0:Ptr) (a1:Int) {K:kT Int} {h:Hp} (H:um a0 a1 K h):cl prog iJ [(pv a0),(.int .i64 a1)] cH K h:=J [] func203 H
def uo (a0:Ptr) (a1:Int) (K:kT Bool):hT:=cl prog iJ [(pv a0),(.int .i64 a1)] cH fun r8=>br ((r8 == 0) || (decide (r8 >= 7))) ( K false) ( nn a0 fun q16=>ld (q16.1,q16.2 + 0) cS fun x18=>ix x18 a1 fun q20=>ld (q20.1,q20.2 + Int.toNat a1 * 1) (cI .i64) fun x21=>st (q20.1,q20.2 + Int.toNat a1 * 1) [.int .i64 (i64.wrap (x21 + 1))]<|K true)
theorem sim_pool_Pool_Hold (a0:Ptr) (a1:Int) {K:kT Bool} {h:Hp} (H:uo a0 a1 K h):cl prog lI [(pv a0),(.int .i64 a1)] ai K h:=J [] func177 H
def wt (a0:Ptr) (a1:Int) (K:kT (Int × Bool)):hT:=cl prog iJ [(pv a0),(.int .i64 a1)] cH fun r8=>br (r8 == 0) ( K (0,false)) ( nn a0 fun q11=>ld (q11.1,q11.2 + 0) cS fun x13=>ix x13 a1 fun q15=>ld (q15.1,q15.2 + Int.toNat a1 * 1) (cI .i64) fun x16=>st (q15.1,q15.2 + Int.toNat a1 * 1) [.int .i64 (i64.wrap (x16 - 1))]<|ld (q11.1,q11.2 + 0) cS fun x22=>ix x22 a1 fun q24=>ld (q24.1,q24.2 + Int.toNat a1 * 1) (cI .i64) fun x25=>K (x25,true))
theorem sim_pool_Pool_Let (a0:Ptr) (a1:Int) {K:kT (Int × Bool)} {h:Hp} (H:wt a0 a1 K h):cl prog mP [(pv a0),(.int .i64 a1)] aR K h:=J [] func181 H
def uI (K:kT Sl) (x11:Sl) (Rec7:kT (Sl × Int)) (s6:Sl × Int):hT:=br (decide (s6.2 < (x11.len:Int))) ( ix x11 s6.2 fun q16=>ld (q16.1,q16.2 + Int.toNat s6.2 * 1) (cI .i64) fun x17=>br (x17 == 0) ( hpv prog (Instr.buildSlice aj 1 #[(0,(.int .i64 s6.2))]) av fun (v22:Sl)=>hpv prog (Builtin.append_ #[aj,aj] aj #[(sv s6.1),(sv v22)]) av fun (v23:Sl)=>Rec7 (v23,(i64.wrap (s6.2 + 1)))) ( Rec7 (s6.1,(i64.wrap (s6.2 + 1))))) ( K s6.1)
def uq (a0:Ptr) (K:kT Sl):hT:=br a0.isNone ( K (⟨none,0,0,none⟩:Sl)) ( nn a0 fun q9=>ld (q9.1,q9.2 + 0) cS fun x11=>Lp (uI K x11) ((⟨none,0,0,none⟩:Sl),0))
theorem sim_pool_Pool_Free (a0:Ptr) {K:kT Sl} {h:Hp} (H:uq a0 K h):cl prog lJ [(pv a0)] av K h:=have z0:LH (σ:=Sl × Int) 5 0 (fun s6 r=>(3,(sv s6.1))::(13,(.int .i64 s6.2))::r) [3,13] [11,12] (fun _ l=>l):=⟨⟩; J [] func113 H
def uJ (K:kT Int) (r7:Sl) (Rec3:kT (Int × Int)) (s2:Int × Int):hT:=br (decide (s2.2 < (r7.len:Int))) ( ix r7 s2.2 fun q11=>ld (q11.1,q11.2 + Int.toNat s2.2 * 1) (cI .i64) fun x12=>gd (0 <= x12)<|Rec3 ((ior .u64 s2.1 (u64.wrap (1 * 2 ^ (min (Int.toNat x12) (IntKind.bits .u64))))),(i64.wrap (s2.2 + 1)))) ( K s2.1)
def ur (a0:Ptr) (K:kT Int):hT:=cl prog lJ [(pv a0)] av fun r7=>Lp (uJ K r7) (0,0)
theorem sim_pool_Pool_Bits (a0:Ptr) {K:kT Int} {h:Hp} (H:ur a0 K h):cl prog qd [(pv a0)] eE K h:=have z0:LH (σ:=Int × Int) 3 0 (fun s2 r=>(3,(.int .u64 s2.1))::(9,(.int .i64 s2.2))::r) [3,9] [7,8] (fun _ l=>l):=⟨⟩; J [] func218 H
end
end Go.Proofs.YtjcamacgclipiaaGreatDoor
