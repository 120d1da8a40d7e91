/- Part of the proof of: The law TwinSelf returns true for every input, and leaves its arguments as they were. -/
import Derived.Test.YtmggcfijlpldpaaGreatDoorTwinSelf02
set_option linter.all false
set_option maxRecDepth 20000
namespace Go.Proofs.YtmggcfijlpldpaaGreatDoor
open Go Mb
set_option linter.unusedVariables false
structure ai where
  e0:Int
  e1:Int
  e2:Int
  e3:Int
  e4:Int
def ai.C (x:ai):List Value:=[.int .u64 x.e0,.int .u64 x.e1,.int .u64 x.e2,.int .u64 x.e3,.int .u64 x.e4]
structure ac where
  fErr:Int
  fVal:Int
def ac.C (x:ac):List Value:=[.int .i64 x.fErr,.int .u64 x.fVal]
structure am where
  fEnv:Int
  fPage:Int
  fFrame:Int
  fRights:Int
def am.C (x:am):List Value:=[.int .i64 x.fEnv,.int .i64 x.fPage,.int .i64 x.fFrame,.int .i64 x.fRights]
structure aB where
  fCore:Int
  fEnv:Int
  fCall:ai
  fBegin:Int
  fEffect:Int
  fEnd:Int
  fAnswer:ac
  fLine:am
def aB.C (x:aB):List Value:=[.int .i64 x.fCore,.int .i64 x.fEnv,.int .u64 x.fCall.e0,.int .u64 x.fCall.e1,.int .u64 x.fCall.e2,.int .u64 x.fCall.e3,.int .u64 x.fCall.e4,.int .i64 x.fBegin,.int .i64 x.fEffect,.int .i64 x.fEnd,.int .i64 x.fAnswer.fErr,.int .u64 x.fAnswer.fVal,.int .i64 x.fLine.fEnv,.int .i64 x.fLine.fPage,.int .i64 x.fLine.fFrame,.int .i64 x.fLine.fRights]
structure lL where
  fat:Int
  fenv:Int
  fc:ai
  ftold:Bool
  fepoch:Int
def lL.C (x:lL):List Value:=[.int .i64 x.fat,.int .i64 x.fenv,.int .u64 x.fc.e0,.int .u64 x.fc.e1,.int .u64 x.fc.e2,.int .u64 x.fc.e3,.int .u64 x.fc.e4,.bool x.ftold,.int .u64 x.fepoch]
structure al where
  fFrame:Int
  fSlot:Int
  fRights:Int
def al.C (x:al):List Value:=[.int .i64 x.fFrame,.int .i64 x.fSlot,.int .i64 x.fRights]
structure aA where
  fFrame:Int
  fRights:Int
  fEnv:Int
  fSlot:Int
def aA.C (x:aA):List Value:=[.int .i64 x.fFrame,.int .i64 x.fRights,.int .i64 x.fEnv,.int .i64 x.fSlot]
structure cj where
  fl:am
  fwhen:Int
def cj.C (x:cj):List Value:=[.int .i64 x.fl.fEnv,.int .i64 x.fl.fPage,.int .i64 x.fl.fFrame,.int .i64 x.fl.fRights,.int .i64 x.fwhen]
structure jh where
  e0:cj
  e1:cj
def jh.C (x:jh):List Value:=[.int .i64 x.e0.fl.fEnv,.int .i64 x.e0.fl.fPage,.int .i64 x.e0.fl.fFrame,.int .i64 x.e0.fl.fRights,.int .i64 x.e0.fwhen,.int .i64 x.e1.fl.fEnv,.int .i64 x.e1.fl.fPage,.int .i64 x.e1.fl.fFrame,.int .i64 x.e1.fl.fRights,.int .i64 x.e1.fwhen]
structure aF where
  fEnv:Int
  fSlot:Int
def aF.C (x:aF):List Value:=[.int .i64 x.fEnv,.int .i64 x.fSlot]
structure ax where
  fCores:Int
  fEnvs:Int
  fFrames:Int
def ax.C (x:ax):List Value:=[.int .i64 x.fCores,.int .i64 x.fEnvs,.int .i64 x.fFrames]
structure sK where
  fl:Sl
def sK.C (x:sK):List Value:=[sv x.fl]
structure od where
  frefs:Sl
def od.C (x:od):List Value:=[sv x.frefs]
structure oh where
  fl:Sl
def oh.C (x:oh):List Value:=[sv x.fl]
structure gf where
  fs:ax
  fm:Ptr
  ftables:Sl
  fpool:Ptr
  fcaps:Ptr
def gf.C (x:gf):List Value:=[.int .i64 x.fs.fCores,.int .i64 x.fs.fEnvs,.int .i64 x.fs.fFrames,pv x.fm,sv x.ftables,pv x.fpool,pv x.fcaps]
structure kC where
  fes:Sl
  fs:ax
  fk:Ptr
def kC.C (x:kC):List Value:=[sv x.fes,.int .i64 x.fs.fCores,.int .i64 x.fs.fEnvs,.int .i64 x.fs.fFrames,pv x.fk]
structure oe where
  fl:Sl
def oe.C (x:oe):List Value:=[sv x.fl]
structure jK where
  fowner:Sl
  fheard:Sl
def jK.C (x:jK):List Value:=[sv x.fowner,sv x.fheard]
structure fF where
  fp:Ptr
  fenvs:Int
  ftlbs:Sl
  fboxes:Ptr
  fepochs:Ptr
  fcalls:Sl
  fevents:Sl
  fnow:Int
def fF.C (x:fF):List Value:=[pv x.fp,.int .i64 x.fenvs,sv x.ftlbs,pv x.fboxes,pv x.fepochs,sv x.fcalls,sv x.fevents,.int .i64 x.fnow]
structure ch where
  fKind:Int
  fCore:Int
  fEnv:Int
  fCall:ai
  fSet:Int
  fWay:Int
def ch.C (x:ch):List Value:=[.int .i64 x.fKind,.int .i64 x.fCore,.int .i64 x.fEnv,.int .u64 x.fCall.e0,.int .u64 x.fCall.e1,.int .u64 x.fCall.e2,.int .u64 x.fCall.e3,.int .u64 x.fCall.e4,.int .i64 x.fSet,.int .i64 x.fWay]
structure cd where
  fCode:Int
  fEnv:Int
  fCall:ai
  fErr:Value
def cd.C (x:cd):List Value:=[.int .i64 x.fCode,.int .i64 x.fEnv,.int .u64 x.fCall.e0,.int .u64 x.fCall.e1,.int .u64 x.fCall.e2,.int .u64 x.fCall.e3,.int .u64 x.fCall.e4,x.fErr]
structure aJ where
  ftyp_:Ptr
  fptr:Ptr
  fflag:Int
def aJ.C (x:aJ):List Value:=[pv x.ftyp_,pv x.fptr,.int .u64 x.fflag]
structure og where
  fv:Int
  fn:Int
def og.C (x:og):List Value:=[.int .u64 x.fv,.int .i64 x.fn]
structure kB where
  fdrawn:Ptr
  fpassed:Ptr
def kB.C (x:kB):List Value:=[pv x.fdrawn,pv x.fpassed]
structure ra where
  fIs:Bool
  fFrame:Int
  fRights:Int
  fEnv:Int
  fSlot:Int
def ra.C (x:ra):List Value:=[.bool x.fIs,.int .i64 x.fFrame,.int .i64 x.fRights,.int .i64 x.fEnv,.int .i64 x.fSlot]
structure iy where
  fEnv:Int
  fSlot:Int
def iy.C (x:iy):List Value:=[.int .i64 x.fEnv,.int .i64 x.fSlot]
def eA (r:Sl):Value:=(sv r)
abbrev eN:Nat:=43
abbrev eQ:Nat:=47
theorem fld_89_6:Fld Tryz.prog 89 6 6:=bW (m:=1) Tryz.underlying89 rfl rfl (by kernel_rfl) (by decide)
theorem en_47:aH Tryz.prog 47:=⟨_,Tryz.func47,by decide,rfl⟩
theorem sc_43:Sc Tryz.prog 43:=⟨⟨_,Tryz.underlying43,rfl⟩,bG (by kernel_rfl)⟩
abbrev fQ:Nat:=20
def az (r:Bool):Value:=(.bool r)
theorem tB:Fld Tryz.prog 89 5 5:=bW (m:=1) Tryz.underlying89 rfl rfl (by kernel_rfl) (by decide)
theorem sc_87:Sc Tryz.prog 87:=⟨⟨_,Tryz.underlying87,rfl⟩,bG (by kernel_rfl)⟩
abbrev ii:Nat:=52
theorem slc_87:Slc Tryz.prog 87 96 1:=⟨Tryz.underlying87,bG (by kernel_rfl)⟩
theorem sc_96:Sc Tryz.prog 96:=⟨⟨_,Tryz.underlying96,rfl⟩,bG (by kernel_rfl)⟩
theorem en_52:aH Tryz.prog 52:=⟨_,Tryz.func52,by decide,rfl⟩
abbrev fR:Nat:=26
theorem fld_89_1:Fld Tryz.prog 89 1 1:=bW (m:=1) Tryz.underlying89 rfl rfl (by kernel_rfl) (by decide)
theorem lF:Fld Tryz.prog 89 7 7:=bW (m:=1) Tryz.underlying89 rfl rfl (by kernel_rfl) (by decide)
theorem cm:Tryz.prog.follows .mixedOrders = true:=by kernel_rfl
theorem fh:Ag Tryz.prog 34 5:=⟨⟨_,Tryz.underlying34,rfl⟩,bG (by kernel_rfl)⟩
theorem build_54_0_1_2_3 (y0:Int) (y1:Int) (y2:ai) (y3:Int):∀ w,(Instr.build 54 #[(0,(.int .i64 y0)),(1,(.int .i64 y1)),(2,(.agg (ai.C y2).toArray)),(3,(.int .i64 y3))]).run Tryz.prog w = .ok (.agg (aB.C (⟨y0,y1,y2,y3,0,0,(⟨0,0⟩:ac),(⟨0,0,0,0⟩:am)⟩:aB)).toArray) w:=fun _=>by kernel_rfl
theorem build_98_0_1_2 (y0:Int) (y1:Int) (y2:ai):∀ w,(Instr.build 98 #[(0,(.int .i64 y0)),(1,(.int .i64 y1)),(2,(.agg (ai.C y2).toArray))]).run Tryz.prog w = .ok (.agg (lL.C (⟨y0,y1,y2,false,0⟩:lL)).toArray) w:=fun _=>by kernel_rfl
theorem inf_96:∃ i,Tryz.prog.info? 96 = some i∧i.size = 1:=bG (by kernel_rfl)
abbrev cQ:Nat:=98
theorem inf_43:∃ i,Tryz.prog.info? 43 = some i∧i.size = 1:=bG (by kernel_rfl)
theorem aY:Sc Tryz.prog 3:=⟨⟨_,Tryz.underlying3,rfl⟩,bG (by kernel_rfl)⟩
theorem pO:∃ i,Tryz.prog.info? 3 = some i∧i.size = 1:=bG (by kernel_rfl)
theorem en_26:aH Tryz.prog 26:=⟨_,Tryz.func26,by decide,rfl⟩
abbrev kW:Nat:=22
def bM (r:Int × Bool):Value:=.tuple #[(.int .i64 r.1),(.bool r.2)]
theorem de:Arr Tryz.prog 34 5 22 1:=⟨Tryz.underlying34,bG (by kernel_rfl)⟩
theorem cx:Sc Tryz.prog 22:=⟨⟨_,Tryz.underlying22,rfl⟩,bG (by kernel_rfl)⟩
abbrev n_word_Kind:Nat:=53
abbrev n_word_User:Nat:=54
def iu (r:Ptr):Value:=(pv r)
abbrev kv:Nat:=211
abbrev lq:Nat:=96
def cn (r:Sl):Value:=(sv r)
abbrev dH:Nat:=40
abbrev sf:Nat:=147
def ai.get (x:ai) (i:Int):Int:=match i.toNat with | 0=>x.e0 | 1=>x.e1 | 2=>x.e2 | 3=>x.e3 | 4=>x.e4 | _=>x.e4
theorem at_34 (x:ai) (i:Int) (h:0 ≤ i∧i < 5):(ai.C x)[0 + i.toNat * 1]? = some (.int .u64 (ai.get x i)):=by
  obtain ⟨n,rfl⟩:=Int.eq_ofNat_of_zero_le h.1
  have h2:n < 5:=by omega
  rcases n with _ | (_ | (_ | (_ | (_ | _)))) <;> first | rfl | omega
abbrev nq:Nat:=155
abbrev n_word_Rights:Nat:=186
theorem en_155:aH Tryz.prog 155:=⟨_,Tryz.func155,by decide,rfl⟩
theorem en_186:aH Tryz.prog 186:=⟨_,Tryz.func186,by decide,rfl⟩
abbrev n_word_fits:Nat:=148
def bg (r:Int):Value:=(.int .i64 r)
theorem iD:Slc Tryz.prog 40 3 1:=⟨Tryz.underlying40,bG (by kernel_rfl)⟩
theorem en_148:aH Tryz.prog 148:=⟨_,Tryz.func148,by decide,rfl⟩
theorem en_147:aH Tryz.prog 147:=⟨_,Tryz.func147,by decide,rfl⟩
theorem en_53:aH Tryz.prog 53:=⟨_,Tryz.func53,by decide,rfl⟩
abbrev gO:Nat:=98
theorem wb:Fld Tryz.prog 149 0 0:=bW (m:=3) Tryz.underlying149 rfl rfl (by kernel_rfl) (by decide)
theorem jF:Fld Tryz.prog 27 1 1:=bW (m:=1) Tryz.underlying27 rfl rfl (by kernel_rfl) (by decide)
abbrev ka:Nat:=112
abbrev n_table_is:Nat:=150
def cD (r:al × Bool):Value:=.tuple #[(.agg (al.C r.1).toArray),(.bool r.2)]
theorem eK:∃ i,Tryz.prog.info? 121 = some i∧i.zero = some (.agg (al.C (⟨0,0,0⟩:al)).toArray):=kP (by kernel_rfl)
theorem kz  : ∀ w,(Instr.build 121 #[]).run Tryz.prog w = .ok (.agg (al.C (⟨0,0,0⟩:al)).toArray) w:=fun _=>by kernel_rfl
theorem dK:Ag Tryz.prog 121 3:=⟨⟨_,Tryz.underlying121,rfl⟩,bG (by kernel_rfl)⟩
theorem cZ:∃ i,Tryz.prog.info? 121 = some i∧i.size = 3:=bG (by kernel_rfl)
theorem ky:Fld Tryz.prog 211 0 0:=bW (m:=24) Tryz.underlying211 rfl rfl (by kernel_rfl) (by decide)
theorem sy:Arr Tryz.prog 122 8 121 3:=⟨Tryz.underlying122,bG (by kernel_rfl)⟩
theorem dN:Fld Tryz.prog 121 2 2:=bW (m:=1) Tryz.underlying121 rfl rfl (by kernel_rfl) (by decide)
theorem en_150:aH Tryz.prog 150:=⟨_,Tryz.func150,by decide,rfl⟩
abbrev eU:Nat:=153
theorem eY:Fld Tryz.prog 149 2 4:=bW (m:=1) Tryz.underlying149 rfl rfl (by kernel_rfl) (by decide)
theorem mZ:Slc Tryz.prog 145 153 1:=⟨Tryz.underlying145,bG (by kernel_rfl)⟩
theorem en_153:aH Tryz.prog 153:=⟨_,Tryz.func153,by decide,rfl⟩
theorem ri:Sc Tryz.prog 153:=⟨⟨_,Tryz.underlying153,rfl⟩,bG (by kernel_rfl)⟩
theorem mC:Sc Tryz.prog 145:=⟨⟨_,Tryz.underlying145,rfl⟩,bG (by kernel_rfl)⟩
theorem en_112:aH Tryz.prog 112:=⟨_,Tryz.func112,by decide,rfl⟩
abbrev fP:Nat:=103
theorem hG:Fld Tryz.prog 205 0 0:=bW (m:=1) Tryz.underlying205 rfl rfl (by kernel_rfl) (by decide)
theorem qc:Sc Tryz.prog 203:=⟨⟨_,Tryz.underlying203,rfl⟩,bG (by kernel_rfl)⟩
abbrev ij:Nat:=145
def cO (r:aA × Bool):Value:=.tuple #[(.agg (aA.C r.1).toArray),(.bool r.2)]
theorem iv:∃ i,Tryz.prog.info? 37 = some i∧i.zero = some (.agg (aA.C (⟨0,0,0,0⟩:aA)).toArray):=kP (by kernel_rfl)
theorem build_37  : ∀ w,(Instr.build 37 #[]).run Tryz.prog w = .ok (.agg (aA.C (⟨0,0,0,0⟩:aA)).toArray) w:=fun _=>by kernel_rfl
theorem ag_37:Ag Tryz.prog 37 4:=⟨⟨_,Tryz.underlying37,rfl⟩,bG (by kernel_rfl)⟩
theorem gy:∃ i,Tryz.prog.info? 37 = some i∧i.size = 4:=bG (by kernel_rfl)
theorem oy:Slc Tryz.prog 203 202 32:=⟨Tryz.underlying203,bG (by kernel_rfl)⟩
theorem qx:Arr Tryz.prog 202 8 37 4:=⟨Tryz.underlying202,bG (by kernel_rfl)⟩
theorem gJ:Fld Tryz.prog 37 1 1:=bW (m:=1) Tryz.underlying37 rfl rfl (by kernel_rfl) (by decide)
theorem en_145:aH Tryz.prog 145:=⟨_,Tryz.func145,by decide,rfl⟩
abbrev ee:Nat:=91
theorem fz:Fld Tryz.prog 149 4 6:=bW (m:=1) Tryz.underlying149 rfl rfl (by kernel_rfl) (by decide)
theorem en_91:aH Tryz.prog 91:=⟨_,Tryz.func91,by decide,rfl⟩
theorem hZ:Sc Tryz.prog 147:=⟨⟨_,Tryz.underlying147,rfl⟩,bG (by kernel_rfl)⟩
abbrev ic:Nat:=45
abbrev n_pte_May:Nat:=161
theorem en_161:aH Tryz.prog 161:=⟨_,Tryz.func161,by decide,rfl⟩
abbrev n_pte_Within:Nat:=106
theorem gc:Fld Tryz.prog 98 2 2:=bW (m:=5) Tryz.underlying98 rfl rfl (by kernel_rfl) (by decide)
theorem qW:Fld Tryz.prog 89 0 0:=bW (m:=1) Tryz.underlying89 rfl rfl (by kernel_rfl) (by decide)
theorem qY:Fld Tryz.prog 37 2 2:=bW (m:=1) Tryz.underlying37 rfl rfl (by kernel_rfl) (by decide)
theorem fld_37_3:Fld Tryz.prog 37 3 3:=bW (m:=1) Tryz.underlying37 rfl rfl (by kernel_rfl) (by decide)
theorem en_45:aH Tryz.prog 45:=⟨_,Tryz.func45,by decide,rfl⟩
theorem vN:Sc Tryz.prog 83:=⟨⟨_,Tryz.underlying83,rfl⟩,bG (by kernel_rfl)⟩
abbrev fL:Nat:=37
theorem vY:Fld Tryz.prog 98 1 1:=bW (m:=1) Tryz.underlying98 rfl rfl (by kernel_rfl) (by decide)
abbrev qf:Nat:=160
def wm (r:al):Value:=(.agg (al.C r).toArray)
theorem qk:Fld Tryz.prog 121 1 1:=bW (m:=1) Tryz.underlying121 rfl rfl (by kernel_rfl) (by decide)
theorem mI:aH Tryz.prog 106:=⟨_,Tryz.func106,by decide,rfl⟩
theorem en_160:aH Tryz.prog 160:=⟨_,Tryz.func160,by decide,rfl⟩
abbrev lZ:Nat:=104
theorem en_104:aH Tryz.prog 104:=⟨_,Tryz.func104,by decide,rfl⟩
theorem fld_98_3:Fld Tryz.prog 98 3 7:=bW (m:=1) Tryz.underlying98 rfl rfl (by kernel_rfl) (by decide)
theorem sc_4:Sc Tryz.prog 4:=⟨⟨_,Tryz.underlying4,rfl⟩,bG (by kernel_rfl)⟩
theorem en_103:aH Tryz.prog 103:=⟨_,Tryz.func103,by decide,rfl⟩
abbrev lY:Nat:=99
def bH (r:Int × Bool):Value:=.tuple #[(.int .u64 r.1),(.bool r.2)]
def al.eqb (x y:al):Bool:=((x.fFrame == y.fFrame) && ((x.fSlot == y.fSlot) && ((x.fRights == y.fRights) && true)))
theorem eqr_121 (n:Nat) (x y:al):EqR Tryz.prog (n + 2) 121 (.agg (al.C x).toArray) (.agg (al.C y).toArray) (al.eqb x y):=xy Tryz.underlying121 (by kernel_rfl) (lH (by decide) (gV aY rfl) (gV aY rfl) (js (n:=n + 0) Tryz.underlying3) (lH (by decide) (gV aY rfl) (gV aY rfl) (js (n:=n + 0) Tryz.underlying3) (lH (by decide) (gV aY rfl) (gV aY rfl) (js (n:=n + 0) Tryz.underlying3) eqf_nil)))
theorem eqg_121:Tryz.prog.eqGuardType Tryz.prog.depth 121 = false:=by kernel_rfl
theorem oa:Fld Tryz.prog 121 0 0:=bW (m:=1) Tryz.underlying121 rfl rfl (by kernel_rfl) (by decide)
abbrev n_pte_Put:Nat:=149
theorem en_149:aH Tryz.prog 149:=⟨_,Tryz.func149,by decide,rfl⟩
abbrev dZ:Nat:=100
def R_api_Line (r:am):Value:=(.agg (am.C r).toArray)
theorem kQ:∃ i,Tryz.prog.info? 52 = some i∧i.zero = some (.agg (am.C (⟨0,0,0,0⟩:am)).toArray):=kP (by kernel_rfl)
theorem build_52_0 (y0:Int):∀ w,(Instr.build 52 #[(0,(.int .i64 y0))]).run Tryz.prog w = .ok (.agg (am.C (⟨y0,0,0,0⟩:am)).toArray) w:=fun _=>by kernel_rfl
theorem gY:Ag Tryz.prog 52 4:=⟨⟨_,Tryz.underlying52,rfl⟩,bG (by kernel_rfl)⟩
theorem fw:∃ i,Tryz.prog.info? 52 = some i∧i.size = 4:=bG (by kernel_rfl)
abbrev n_tlb_empty:Nat:=146
def jS (r:Ptr):Value:=(pv r)
theorem sJ:Fld Tryz.prog 166 0 0:=bW (m:=40) Tryz.underlying166 rfl rfl (by kernel_rfl) (by decide)
theorem arr_164:Arr Tryz.prog 164 4 163 10:=⟨Tryz.underlying164,bG (by kernel_rfl)⟩
theorem arr_163:Arr Tryz.prog 163 2 162 5:=⟨Tryz.underlying163,bG (by kernel_rfl)⟩
theorem mh:Fld Tryz.prog 162 0 0:=bW (m:=4) Tryz.underlying162 rfl rfl (by kernel_rfl) (by decide)
theorem jE:Fld Tryz.prog 52 0 0:=bW (m:=1) Tryz.underlying52 rfl rfl (by kernel_rfl) (by decide)
theorem mX:Fld Tryz.prog 52 1 1:=bW (m:=1) Tryz.underlying52 rfl rfl (by kernel_rfl) (by decide)
abbrev oM:Nat:=162
theorem en_146:aH Tryz.prog 146:=⟨_,Tryz.func146,by decide,rfl⟩
theorem en_162:aH Tryz.prog 162:=⟨_,Tryz.func162,by decide,rfl⟩
abbrev nc:Nat:=107
def fG (r:am × Bool):Value:=.tuple #[(.agg (am.C r.1).toArray),(.bool r.2)]
theorem lK  : ∀ w,(Instr.build 52 #[]).run Tryz.prog w = .ok (.agg (am.C (⟨0,0,0,0⟩:am)).toArray) w:=fun _=>by kernel_rfl
abbrev oN:Nat:=151
abbrev n_pte_Lets:Nat:=152
theorem fld_162_1:Fld Tryz.prog 162 1 4:=bW (m:=1) Tryz.underlying162 rfl rfl (by kernel_rfl) (by decide)
abbrev tn:Nat:=187
theorem lG:Fld Tryz.prog 52 2 2:=bW (m:=1) Tryz.underlying52 rfl rfl (by kernel_rfl) (by decide)
theorem qX:Fld Tryz.prog 52 3 3:=bW (m:=1) Tryz.underlying52 rfl rfl (by kernel_rfl) (by decide)
theorem fld_166_1:Fld Tryz.prog 166 1 40:=bW (m:=1) Tryz.underlying166 rfl rfl (by kernel_rfl) (by decide)
theorem build_162_0_1 (y0:am) (y1:Int):∀ w,(Instr.build 162 #[(0,(.agg (am.C y0).toArray)),(1,(.int .i64 y1))]).run Tryz.prog w = .ok (.agg (cj.C (⟨y0,y1⟩:cj)).toArray) w:=fun _=>by kernel_rfl
theorem inf_162:∃ i,Tryz.prog.info? 162 = some i∧i.size = 5:=bG (by kernel_rfl)
theorem en_187:aH Tryz.prog 187:=⟨_,Tryz.func187,by decide,rfl⟩
abbrev oO:Nat:=154
theorem en_107:aH Tryz.prog 107:=⟨_,Tryz.func107,by decide,rfl⟩
theorem wk (y0:Int) (y1:Int) (y2:Int) (y3:Int):∀ w,(Instr.build 52 #[(0,(.int .i64 y0)),(1,(.int .i64 y1)),(2,(.int .i64 y2)),(3,(.int .i64 y3))]).run Tryz.prog w = .ok (.agg (am.C (⟨y0,y1,y2,y3⟩:am)).toArray) w:=fun _=>by kernel_rfl
theorem en_154:aH Tryz.prog 154:=⟨_,Tryz.func154,by decide,rfl⟩
theorem en_152:aH Tryz.prog 152:=⟨_,Tryz.func152,by decide,rfl⟩
theorem en_151:aH Tryz.prog 151:=⟨_,Tryz.func151,by decide,rfl⟩
abbrev uB:Nat:=101
def eB (r:Int):Value:=(.int .i64 r)
theorem sI:Fld Tryz.prog 209 0 0:=bW (m:=1) Tryz.underlying209 rfl rfl (by kernel_rfl) (by decide)
theorem lh:Sc Tryz.prog 155:=⟨⟨_,Tryz.underlying155,rfl⟩,bG (by kernel_rfl)⟩
abbrev vW:Nat:=212
def sL (r:Ptr):Value:=(pv r)
theorem lP:Slc Tryz.prog 155 158 1:=⟨Tryz.underlying155,bG (by kernel_rfl)⟩
theorem sc:Slc Tryz.prog 158 22 1:=⟨Tryz.underlying158,bG (by kernel_rfl)⟩
theorem rh:Sc Tryz.prog 158:=⟨⟨_,Tryz.underlying158,rfl⟩,bG (by kernel_rfl)⟩
theorem en_212:aH Tryz.prog 212:=⟨_,Tryz.func212,by decide,rfl⟩
abbrev lW:Nat:=188
theorem en_188:aH Tryz.prog 188:=⟨_,Tryz.func188,by decide,rfl⟩
abbrev ig:Nat:=156
theorem inf_22:∃ i,Tryz.prog.info? 22 = some i∧i.size = 1:=bG (by kernel_rfl)
abbrev fE:Nat:=157
theorem en_157:aH Tryz.prog 157:=⟨_,Tryz.func157,by decide,rfl⟩
theorem en_156:aH Tryz.prog 156:=⟨_,Tryz.func156,by decide,rfl⟩
abbrev qt:Nat:=158
abbrev qu:Nat:=159
def bh (r:ac × Bool):Value:=.tuple #[(.agg (ac.C r.1).toArray),(.bool r.2)]
theorem dc:∃ i,Tryz.prog.info? 30 = some i∧i.zero = some (.agg (ac.C (⟨0,0⟩:ac)).toArray):=kP (by kernel_rfl)
theorem tN  : ∀ w,(Instr.build 30 #[]).run Tryz.prog w = .ok (.agg (ac.C (⟨0,0⟩:ac)).toArray) w:=fun _=>by kernel_rfl
theorem cy:Ag Tryz.prog 30 2:=⟨⟨_,Tryz.underlying30,rfl⟩,bG (by kernel_rfl)⟩
theorem bP:∃ i,Tryz.prog.info? 30 = some i∧i.size = 2:=bG (by kernel_rfl)
theorem ki (y1:Int):∀ w,(Instr.build 30 #[(1,(.int .u64 y1))]).run Tryz.prog w = .ok (.agg (ac.C (⟨0,y1⟩:ac)).toArray) w:=fun _=>by kernel_rfl
theorem mj:Fld Tryz.prog 149 1 3:=bW (m:=1) Tryz.underlying149 rfl rfl (by kernel_rfl) (by decide)
theorem wU:Sc Tryz.prog 144:=⟨⟨_,Tryz.underlying144,rfl⟩,bG (by kernel_rfl)⟩
theorem en_158:aH Tryz.prog 158:=⟨_,Tryz.func158,by decide,rfl⟩
theorem en_159:aH Tryz.prog 159:=⟨_,Tryz.func159,by decide,rfl⟩
theorem en_54:aH Tryz.prog 54:=⟨_,Tryz.func54,by decide,rfl⟩
abbrev eV:Nat:=102
def eJ (r:ac × am):Value:=.tuple #[(.agg (ac.C r.1).toArray),(.agg (am.C r.2).toArray)]
theorem jn (y0:Int):∀ w,(Instr.build 30 #[(0,(.int .i64 y0))]).run Tryz.prog w = .ok (.agg (ac.C (⟨y0,0⟩:ac)).toArray) w:=fun _=>by kernel_rfl
theorem jD:Fld Tryz.prog 89 2 2:=bW (m:=1) Tryz.underlying89 rfl rfl (by kernel_rfl) (by decide)
theorem slc_84:Slc Tryz.prog 84 94 1:=⟨Tryz.underlying84,bG (by kernel_rfl)⟩
theorem vd:aH Tryz.prog 102:=⟨_,Tryz.func102,by decide,rfl⟩
theorem en_101:aH Tryz.prog 101:=⟨_,Tryz.func101,by decide,rfl⟩
theorem sc_94:Sc Tryz.prog 94:=⟨⟨_,Tryz.underlying94,rfl⟩,bG (by kernel_rfl)⟩
theorem sc_84:Sc Tryz.prog 84:=⟨⟨_,Tryz.underlying84,rfl⟩,bG (by kernel_rfl)⟩
theorem en_100:aH Tryz.prog 100:=⟨_,Tryz.func100,by decide,rfl⟩
theorem en_99:aH Tryz.prog 99:=⟨_,Tryz.func99,by decide,rfl⟩
theorem en_96:aH Tryz.prog 96:=⟨_,Tryz.func96,by decide,rfl⟩
theorem en_98:aH Tryz.prog 98:=⟨_,Tryz.func98,by decide,rfl⟩
abbrev ny:Nat:=55
def R_ (_:Unit):Value:=.tuple #[]
theorem fld_98_0:Fld Tryz.prog 98 0 0:=bW (m:=1) Tryz.underlying98 rfl rfl (by kernel_rfl) (by decide)
theorem sT:Slc Tryz.prog 43 54 16:=⟨Tryz.underlying43,bG (by kernel_rfl)⟩
theorem je:Fld Tryz.prog 54 4 8:=bW (m:=1) Tryz.underlying54 rfl rfl (by kernel_rfl) (by decide)
theorem oZ:Fld Tryz.prog 54 5 9:=bW (m:=1) Tryz.underlying54 rfl rfl (by kernel_rfl) (by decide)
theorem kr:Fld Tryz.prog 54 6 10:=bW (m:=2) Tryz.underlying54 rfl rfl (by kernel_rfl) (by decide)
theorem ge:Fld Tryz.prog 54 7 12:=bW (m:=4) Tryz.underlying54 rfl rfl (by kernel_rfl) (by decide)
abbrev ma:Nat:=56
abbrev oP:Nat:=57
def rb (r:Sl):Value:=(sv r)
abbrev t_2_tlb_line:Nat:=163
def R_tlb_line (r:cj):Value:=(.agg (cj.C r).toArray)
theorem zero_162:∃ i,Tryz.prog.info? 162 = some i∧i.zero = some (.agg (cj.C (⟨(⟨0,0,0,0⟩:am),0⟩:cj)).toArray):=kP (by kernel_rfl)
abbrev qG:Nat:=173
theorem ag_163:Ag Tryz.prog 163 10:=⟨⟨_,Tryz.underlying163,rfl⟩,bG (by kernel_rfl)⟩
abbrev rj:Nat:=105
theorem slc_173:Slc Tryz.prog 173 52 4:=⟨Tryz.underlying173,bG (by kernel_rfl)⟩
theorem en_105:aH Tryz.prog 105:=⟨_,Tryz.func105,by decide,rfl⟩
abbrev kV:Nat:=58
theorem fld_160_1:Fld Tryz.prog 160 1 1:=bW (m:=1) Tryz.underlying160 rfl rfl (by kernel_rfl) (by decide)
abbrev kX:Nat:=108
def gK (r:Int):Value:=(.int .u64 r)
theorem fld_160_0:Fld Tryz.prog 160 0 0:=bW (m:=1) Tryz.underlying160 rfl rfl (by kernel_rfl) (by decide)
theorem sc_40:Sc Tryz.prog 40:=⟨⟨_,Tryz.underlying40,rfl⟩,bG (by kernel_rfl)⟩
abbrev fS:Nat:=109
theorem en_109:aH Tryz.prog 109:=⟨_,Tryz.func109,by decide,rfl⟩
theorem inf_40:∃ i,Tryz.prog.info? 40 = some i∧i.size = 1:=bG (by kernel_rfl)
theorem en_108:aH Tryz.prog 108:=⟨_,Tryz.func108,by decide,rfl⟩
abbrev iW:Nat:=59
theorem mi:Fld Tryz.prog 157 0 0:=bW (m:=1) Tryz.underlying157 rfl rfl (by kernel_rfl) (by decide)
abbrev lA:Nat:=163
abbrev tw:Nat:=213
theorem en_213:aH Tryz.prog 213:=⟨_,Tryz.func213,by decide,rfl⟩
abbrev uG:Nat:=189
abbrev pN:Nat:=190
theorem en_189:aH Tryz.prog 189:=⟨_,Tryz.func189,by decide,rfl⟩
theorem en_190:aH Tryz.prog 190:=⟨_,Tryz.func190,by decide,rfl⟩
abbrev eL:Nat:=164
abbrev bd:Nat:=158
def cf (r:Sl):Value:=(sv r)
abbrev sg:Nat:=192
abbrev kR:Nat:=3
abbrev uU:Nat:=191
theorem en_192:aH Tryz.prog 192:=⟨_,Tryz.func192,by decide,rfl⟩
abbrev dB:Nat:=165
theorem inf_158:∃ i,Tryz.prog.info? 158 = some i∧i.size = 1:=bG (by kernel_rfl)
theorem en_165:aH Tryz.prog 165:=⟨_,Tryz.func165,by decide,rfl⟩
theorem en_164:aH Tryz.prog 164:=⟨_,Tryz.func164,by decide,rfl⟩
theorem en_163:aH Tryz.prog 163:=⟨_,Tryz.func163,by decide,rfl⟩
abbrev qe:Nat:=110
theorem en_110:aH Tryz.prog 110:=⟨_,Tryz.func110,by decide,rfl⟩
abbrev ng:Nat:=60
abbrev iV:Nat:=111
theorem en_111:aH Tryz.prog 111:=⟨_,Tryz.func111,by decide,rfl⟩
abbrev jr:Nat:=61
abbrev n_plain_fails:Nat:=113
theorem build_37_0_1_2 (y0:Int) (y1:Int) (y2:Int):∀ w,(Instr.build 37 #[(0,(.int .i64 y0)),(1,(.int .i64 y1)),(2,(.int .i64 y2))]).run Tryz.prog w = .ok (.agg (aA.C (⟨y0,y1,y2,0⟩:aA)).toArray) w:=fun _=>by kernel_rfl
abbrev jA:Nat:=134
abbrev jY:Nat:=193
theorem nY:Fld Tryz.prog 207 0 0:=bW (m:=1) Tryz.underlying207 rfl rfl (by kernel_rfl) (by decide)
theorem en_193:aH Tryz.prog 193:=⟨_,Tryz.func193,by decide,rfl⟩
abbrev jx:Nat:=166
abbrev t_none:Nat:=0
abbrev tt:Nat:=167
theorem nZ:Fld Tryz.prog 149 3 5:=bW (m:=1) Tryz.underlying149 rfl rfl (by kernel_rfl) (by decide)
theorem en_134:aH Tryz.prog 134:=⟨_,Tryz.func134,by decide,rfl⟩
theorem en_167:aH Tryz.prog 167:=⟨_,Tryz.func167,by decide,rfl⟩
theorem en_166:aH Tryz.prog 166:=⟨_,Tryz.func166,by decide,rfl⟩
theorem sc_146:Sc Tryz.prog 146:=⟨⟨_,Tryz.underlying146,rfl⟩,bG (by kernel_rfl)⟩
abbrev lv:Nat:=114
theorem tE:Fld Tryz.prog 37 0 0:=bW (m:=1) Tryz.underlying37 rfl rfl (by kernel_rfl) (by decide)
theorem build_37_0_1_2_3 (y0:Int) (y1:Int) (y2:Int) (y3:Int):∀ w,(Instr.build 37 #[(0,(.int .i64 y0)),(1,(.int .i64 y1)),(2,(.int .i64 y2)),(3,(.int .i64 y3))]).run Tryz.prog w = .ok (.agg (aA.C (⟨y0,y1,y2,y3⟩:aA)).toArray) w:=fun _=>by kernel_rfl
abbrev ik:Nat:=135
abbrev jy:Nat:=194
theorem en_194:aH Tryz.prog 194:=⟨_,Tryz.func194,by decide,rfl⟩
abbrev lU:Nat:=168
def cT (r:Sl):Value:=(sv r)
abbrev lf:Nat:=202
def R_api_Cap (r:aA):Value:=(.agg (aA.C r).toArray)
theorem vh (y0:Int) (y1:Int):∀ w,(Instr.build 231 #[(0,(.int .i64 y0)),(1,(.int .i64 y1))]).run Tryz.prog w = .ok (.agg (aF.C (⟨y0,y1⟩:aF)).toArray) w:=fun _=>by kernel_rfl
theorem zero_231:∃ i,Tryz.prog.info? 231 = some i∧i.zero = some (.agg (aF.C (⟨0,0⟩:aF)).toArray):=kP (by kernel_rfl)
theorem ag_231:Ag Tryz.prog 231 2:=⟨⟨_,Tryz.underlying231,rfl⟩,bG (by kernel_rfl)⟩
abbrev gT:Nat:=197
theorem inf_231:∃ i,Tryz.prog.info? 231 = some i∧i.size = 2:=bG (by kernel_rfl)
abbrev kq:Nat:=179
abbrev mf:Nat:=195
theorem slc_197:Slc Tryz.prog 197 231 2:=⟨Tryz.underlying197,bG (by kernel_rfl)⟩
theorem fld_231_0:Fld Tryz.prog 231 0 0:=bW (m:=1) Tryz.underlying231 rfl rfl (by kernel_rfl) (by decide)
theorem fld_231_1:Fld Tryz.prog 231 1 1:=bW (m:=1) Tryz.underlying231 rfl rfl (by kernel_rfl) (by decide)
abbrev gG:Nat:=196
abbrev kY:Nat:=181
def aF.eqb (x y:aF):Bool:=((x.fEnv == y.fEnv) && ((x.fSlot == y.fSlot) && true))
theorem eqr_231 (n:Nat) (x y:aF):EqR Tryz.prog (n + 2) 231 (.agg (aF.C x).toArray) (.agg (aF.C y).toArray) (aF.eqb x y):=xy Tryz.underlying231 (by kernel_rfl) (lH (by decide) (gV aY rfl) (gV aY rfl) (js (n:=n + 0) Tryz.underlying3) (lH (by decide) (gV aY rfl) (gV aY rfl) (js (n:=n + 0) Tryz.underlying3) eqf_nil))
theorem eqg_231:Tryz.prog.eqGuardType Tryz.prog.depth 231 = false:=by kernel_rfl
theorem en_181:aH Tryz.prog 181:=⟨_,Tryz.func181,by decide,rfl⟩
abbrev gH:Nat:=197
def dz (r:Sl × Int):Value:=.tuple #[(sv r.1),(.int .i64 r.2)]
theorem en_196:aH Tryz.prog 196:=⟨_,Tryz.func196,by decide,rfl⟩
theorem en_179:aH Tryz.prog 179:=⟨_,Tryz.func179,by decide,rfl⟩
abbrev rU:Nat:=231
theorem en_195:aH Tryz.prog 195:=⟨_,Tryz.func195,by decide,rfl⟩
abbrev rV:Nat:=147
abbrev mg:Nat:=169
theorem en_169:aH Tryz.prog 169:=⟨_,Tryz.func169,by decide,rfl⟩
theorem en_168:aH Tryz.prog 168:=⟨_,Tryz.func168,by decide,rfl⟩
theorem en_135:aH Tryz.prog 135:=⟨_,Tryz.func135,by decide,rfl⟩
abbrev iw:Nat:=115
def jt (r:al × Int):Value:=.tuple #[(.agg (al.C r.1).toArray),(.int .i64 r.2)]
abbrev iU:Nat:=118
abbrev lD:Nat:=180
abbrev kZ:Nat:=139
theorem en_139:aH Tryz.prog 139:=⟨_,Tryz.func139,by decide,rfl⟩
abbrev nA:Nat:=170
abbrev tZ:Nat:=122
abbrev lT:Nat:=171
abbrev ne:Nat:=172
def gR (r:ac):Value:=(.agg (ac.C r).toArray)
theorem en_118:aH Tryz.prog 118:=⟨_,Tryz.func118,by decide,rfl⟩
theorem en_172:aH Tryz.prog 172:=⟨_,Tryz.func172,by decide,rfl⟩
theorem en_171:aH Tryz.prog 171:=⟨_,Tryz.func171,by decide,rfl⟩
theorem en_170:aH Tryz.prog 170:=⟨_,Tryz.func170,by decide,rfl⟩
abbrev kE:Nat:=116
theorem nj (y0:Int) (y1:Int) (y2:Int):∀ w,(Instr.build 121 #[(0,(.int .i64 y0)),(1,(.int .i64 y1)),(2,(.int .i64 y2))]).run Tryz.prog w = .ok (.agg (al.C (⟨y0,y1,y2⟩:al)).toArray) w:=fun _=>by kernel_rfl
abbrev mF:Nat:=117
abbrev kD:Nat:=173
theorem en_173:aH Tryz.prog 173:=⟨_,Tryz.func173,by decide,rfl⟩
abbrev jZ:Nat:=119
abbrev n_pred_Holds:Nat:=140
theorem rv:aH Tryz.prog 113:=⟨_,Tryz.func113,by decide,rfl⟩
theorem en_140:aH Tryz.prog 140:=⟨_,Tryz.func140,by decide,rfl⟩
abbrev lu:Nat:=120
abbrev mD:Nat:=121
theorem en_116:aH Tryz.prog 116:=⟨_,Tryz.func116,by decide,rfl⟩
theorem en_114:aH Tryz.prog 114:=⟨_,Tryz.func114,by decide,rfl⟩
theorem en_115:aH Tryz.prog 115:=⟨_,Tryz.func115,by decide,rfl⟩
theorem en_117:aH Tryz.prog 117:=⟨_,Tryz.func117,by decide,rfl⟩
theorem en_119:aH Tryz.prog 119:=⟨_,Tryz.func119,by decide,rfl⟩
theorem en_120:aH Tryz.prog 120:=⟨_,Tryz.func120,by decide,rfl⟩
theorem en_121:aH Tryz.prog 121:=⟨_,Tryz.func121,by decide,rfl⟩
abbrev dA:Nat:=62
theorem en_56:aH Tryz.prog 56:=⟨_,Tryz.func56,by decide,rfl⟩
theorem en_55:aH Tryz.prog 55:=⟨_,Tryz.func55,by decide,rfl⟩
theorem fld_89_4:Fld Tryz.prog 89 4 4:=bW (m:=1) Tryz.underlying89 rfl rfl (by kernel_rfl) (by decide)
theorem fld_98_4:Fld Tryz.prog 98 4 8:=bW (m:=1) Tryz.underlying98 rfl rfl (by kernel_rfl) (by decide)
theorem fld_89_3:Fld Tryz.prog 89 3 3:=bW (m:=1) Tryz.underlying89 rfl rfl (by kernel_rfl) (by decide)
theorem en_60:aH Tryz.prog 60:=⟨_,Tryz.func60,by decide,rfl⟩
theorem sc_85:Sc Tryz.prog 85:=⟨⟨_,Tryz.underlying85,rfl⟩,bG (by kernel_rfl)⟩
theorem en_59:aH Tryz.prog 59:=⟨_,Tryz.func59,by decide,rfl⟩
theorem sc_86:Sc Tryz.prog 86:=⟨⟨_,Tryz.underlying86,rfl⟩,bG (by kernel_rfl)⟩
theorem en_58:aH Tryz.prog 58:=⟨_,Tryz.func58,by decide,rfl⟩
theorem inf_4:∃ i,Tryz.prog.info? 4 = some i∧i.size = 1:=bG (by kernel_rfl)
theorem en_62:aH Tryz.prog 62:=⟨_,Tryz.func62,by decide,rfl⟩
theorem en_61:aH Tryz.prog 61:=⟨_,Tryz.func61,by decide,rfl⟩
theorem en_57:aH Tryz.prog 57:=⟨_,Tryz.func57,by decide,rfl⟩
abbrev mb:Nat:=23
abbrev kU:Nat:=122
theorem en_122:aH Tryz.prog 122:=⟨_,Tryz.func122,by decide,rfl⟩
abbrev qg:Nat:=63
abbrev lX:Nat:=123
abbrev ke:Nat:=124
theorem en_124:aH Tryz.prog 124:=⟨_,Tryz.func124,by decide,rfl⟩
theorem en_123:aH Tryz.prog 123:=⟨_,Tryz.func123,by decide,rfl⟩
abbrev mc:Nat:=64
theorem en_23:aH Tryz.prog 23:=⟨_,Tryz.func23,by decide,rfl⟩
theorem en_64:aH Tryz.prog 64:=⟨_,Tryz.func64,by decide,rfl⟩
theorem en_63:aH Tryz.prog 63:=⟨_,Tryz.func63,by decide,rfl⟩
abbrev gP:Nat:=24
theorem tD:Fld Tryz.prog 54 0 0:=bW (m:=1) Tryz.underlying54 rfl rfl (by kernel_rfl) (by decide)
theorem en_20:aH Tryz.prog 20:=⟨_,Tryz.func20,by decide,rfl⟩
theorem en_24:aH Tryz.prog 24:=⟨_,Tryz.func24,by decide,rfl⟩
theorem en_22:aH Tryz.prog 22:=⟨_,Tryz.func22,by decide,rfl⟩
abbrev eG:Nat:=16
theorem mY:Fld Tryz.prog 27 0 0:=bW (m:=1) Tryz.underlying27 rfl rfl (by kernel_rfl) (by decide)
theorem pb:Fld Tryz.prog 54 1 1:=bW (m:=1) Tryz.underlying54 rfl rfl (by kernel_rfl) (by decide)
theorem tC:Fld Tryz.prog 54 3 7:=bW (m:=1) Tryz.underlying54 rfl rfl (by kernel_rfl) (by decide)
abbrev n_hist_one:Nat:=69
abbrev ju:Nat:=50
def R_map_int_bool (r:(Option Nat)):Value:=(.map r)
abbrev gS:Nat:=113
def R_map_int_int (r:(Option Nat)):Value:=(.map r)
theorem zero_54:∃ i,Tryz.prog.info? 54 = some i∧i.zero = some (.agg (aB.C (⟨0,0,(⟨0,0,0,0,0⟩:ai),0,0,0,(⟨0,0⟩:ac),(⟨0,0,0,0⟩:am)⟩:aB)).toArray):=kP (by kernel_rfl)
theorem ag_54:Ag Tryz.prog 54 16:=⟨⟨_,Tryz.underlying54,rfl⟩,bG (by kernel_rfl)⟩
theorem ph:Ag Tryz.prog 27 3:=⟨⟨_,Tryz.underlying27,rfl⟩,bG (by kernel_rfl)⟩
theorem en_69:aH Tryz.prog 69:=⟨_,Tryz.func69,by decide,rfl⟩
theorem inf_54:∃ i,Tryz.prog.info? 54 = some i∧i.size = 16:=bG (by kernel_rfl)
abbrev xf:Nat:=33
abbrev mV:Nat:=67
abbrev nh:Nat:=86
abbrev cc:Nat:=184
abbrev ko:Nat:=185
theorem en_185:aH Tryz.prog 185:=⟨_,Tryz.func185,by decide,rfl⟩
theorem en_184:aH Tryz.prog 184:=⟨_,Tryz.func184,by decide,rfl⟩
abbrev lr:Nat:=143
theorem en_143:aH Tryz.prog 143:=⟨_,Tryz.func143,by decide,rfl⟩
abbrev fH:Nat:=87
abbrev n_cmp_isNaN_int:Nat:=144
theorem en_144:aH Tryz.prog 144:=⟨_,Tryz.func144,by decide,rfl⟩
abbrev uH:Nat:=89
theorem en_89:aH Tryz.prog 89:=⟨_,Tryz.func89,by decide,rfl⟩
abbrev rp:Nat:=88
theorem en_87:aH Tryz.prog 87:=⟨_,Tryz.func87,by decide,rfl⟩
theorem en_67:aH Tryz.prog 67:=⟨_,Tryz.func67,by decide,rfl⟩
abbrev oT:Nat:=43
def tS (r:Ptr):Value:=(pv r)
theorem build_209  : ∀ w,(Instr.build 209 #[]).run Tryz.prog w = .ok (.agg (sK.C (⟨(⟨none,0,0,none⟩:Sl)⟩:sK)).toArray) w:=fun _=>by kernel_rfl
abbrev pZ:Nat:=155
def R_SSuint64 (r:Sl):Value:=(sv r)
theorem inf_155:∃ i,Tryz.prog.info? 155 = some i∧i.size = 1:=bG (by kernel_rfl)
abbrev lM:Nat:=209
abbrev vV:Nat:=93
def sA (r:Ptr):Value:=(pv r)
theorem build_207_0 (y0:Sl):∀ w,(Instr.build 207 #[(0,(sv y0))]).run Tryz.prog w = .ok (.agg (od.C (⟨y0⟩:od)).toArray) w:=fun _=>by kernel_rfl
abbrev qD:Nat:=207
abbrev xd:Nat:=94
def sC (r:Ptr):Value:=(pv r)
abbrev t_S_8_api_Cap:Nat:=203
def R_S_8_api_Cap (r:Sl):Value:=(sv r)
theorem build_205_0 (y0:Sl):∀ w,(Instr.build 205 #[(0,(sv y0))]).run Tryz.prog w = .ok (.agg (oh.C (⟨y0⟩:oh)).toArray) w:=fun _=>by kernel_rfl
abbrev nK:Nat:=205
abbrev xg:Nat:=95
def dL (r:Ptr):Value:=(pv r)
theorem tF:Fld Tryz.prog 27 2 2:=bW (m:=1) Tryz.underlying27 rfl rfl (by kernel_rfl) (by decide)
theorem build_149_0_1_3_4 (y0:ax) (y1:Ptr) (y3:Ptr) (y4:Ptr):∀ w,(Instr.build 149 #[(0,(.agg (ax.C y0).toArray)),(1,(pv y1)),(3,(pv y3)),(4,(pv y4))]).run Tryz.prog w = .ok (.agg (gf.C (⟨y0,y1,(⟨none,0,0,none⟩:Sl),y3,y4⟩:gf)).toArray) w:=fun _=>by kernel_rfl
abbrev eO:Nat:=145
def nk (r:Sl):Value:=(sv r)
theorem inf_145:∃ i,Tryz.prog.info? 145 = some i∧i.size = 1:=bG (by kernel_rfl)
abbrev cA:Nat:=149
theorem en_95:aH Tryz.prog 95:=⟨_,Tryz.func95,by decide,rfl⟩
theorem en_94:aH Tryz.prog 94:=⟨_,Tryz.func94,by decide,rfl⟩
theorem en_93:aH Tryz.prog 93:=⟨_,Tryz.func93,by decide,rfl⟩
abbrev nQ:Nat:=48
theorem mW:Fld Tryz.prog 54 2 2:=bW (m:=5) Tryz.underlying54 rfl rfl (by kernel_rfl) (by decide)
abbrev n_judge_user:Nat:=131
abbrev gw:Nat:=216
theorem en_216:aH Tryz.prog 216:=⟨_,Tryz.func216,by decide,rfl⟩
abbrev rn:Nat:=199
abbrev mE:Nat:=200
theorem en_199:aH Tryz.prog 199:=⟨_,Tryz.func199,by decide,rfl⟩
theorem en_200:aH Tryz.prog 200:=⟨_,Tryz.func200,by decide,rfl⟩
theorem en_48:aH Tryz.prog 48:=⟨_,Tryz.func48,by decide,rfl⟩
abbrev gF:Nat:=175
abbrev tv:Nat:=215
abbrev n_hist_Over:Nat:=198
def qp (r:Sl):Value:=(sv r)
theorem wa:Fld Tryz.prog 192 2 4:=bW (m:=1) Tryz.underlying192 rfl rfl (by kernel_rfl) (by decide)
abbrev pY:Nat:=234
theorem fld_192_0:Fld Tryz.prog 192 0 0:=bW (m:=1) Tryz.underlying192 rfl rfl (by kernel_rfl) (by decide)
theorem en_175:aH Tryz.prog 175:=⟨_,Tryz.func175,by decide,rfl⟩
theorem en_198:aH Tryz.prog 198:=⟨_,Tryz.func198,by decide,rfl⟩
abbrev lB:Nat:=174
theorem fld_192_1:Fld Tryz.prog 192 1 1:=bW (m:=3) Tryz.underlying192 rfl rfl (by kernel_rfl) (by decide)
def ac.eqb (x y:ac):Bool:=((x.fErr == y.fErr) && ((x.fVal == y.fVal) && true))
theorem oH:Sc Tryz.prog 28:=⟨⟨_,Tryz.underlying28,rfl⟩,bG (by kernel_rfl)⟩
theorem eqr_30 (n:Nat) (x y:ac):EqR Tryz.prog (n + 2) 30 (.agg (ac.C x).toArray) (.agg (ac.C y).toArray) (ac.eqb x y):=xy Tryz.underlying30 (by kernel_rfl) (lH (by decide) (gV oH rfl) (gV oH rfl) (js (n:=n + 0) Tryz.underlying28) (lH (by decide) (gV cx rfl) (gV cx rfl) (js (n:=n + 0) Tryz.underlying22) eqf_nil))
theorem eqg_30:Tryz.prog.eqGuardType Tryz.prog.depth 30 = false:=by kernel_rfl
def am.eqb (x y:am):Bool:=((x.fEnv == y.fEnv) && ((x.fPage == y.fPage) && ((x.fFrame == y.fFrame) && ((x.fRights == y.fRights) && true))))
theorem eqr_52 (n:Nat) (x y:am):EqR Tryz.prog (n + 2) 52 (.agg (am.C x).toArray) (.agg (am.C y).toArray) (am.eqb x y):=xy Tryz.underlying52 (by kernel_rfl) (lH (by decide) (gV aY rfl) (gV aY rfl) (js (n:=n + 0) Tryz.underlying3) (lH (by decide) (gV aY rfl) (gV aY rfl) (js (n:=n + 0) Tryz.underlying3) (lH (by decide) (gV aY rfl) (gV aY rfl) (js (n:=n + 0) Tryz.underlying3) (lH (by decide) (gV aY rfl) (gV aY rfl) (js (n:=n + 0) Tryz.underlying3) eqf_nil))))
theorem eqg_52:Tryz.prog.eqGuardType Tryz.prog.depth 52 = false:=by kernel_rfl
theorem slc_234:Slc Tryz.prog 234 121 3:=⟨Tryz.underlying234,bG (by kernel_rfl)⟩
theorem ku:Fld Tryz.prog 30 0 0:=bW (m:=1) Tryz.underlying30 rfl rfl (by kernel_rfl) (by decide)
theorem fld_30_1:Fld Tryz.prog 30 1 1:=bW (m:=1) Tryz.underlying30 rfl rfl (by kernel_rfl) (by decide)
theorem en_174:aH Tryz.prog 174:=⟨_,Tryz.func174,by decide,rfl⟩
abbrev lC:Nat:=132
abbrev nz:Nat:=133
theorem build_192_0_1_2 (y0:Sl) (y1:ax) (y2:Ptr):∀ w,(Instr.build 192 #[(0,(sv y0)),(1,(.agg (ax.C y1).toArray)),(2,(pv y2))]).run Tryz.prog w = .ok (.agg (kC.C (⟨y0,y1,y2⟩:kC)).toArray) w:=fun _=>by kernel_rfl
theorem en_133:aH Tryz.prog 133:=⟨_,Tryz.func133,by decide,rfl⟩
theorem en_132:aH Tryz.prog 132:=⟨_,Tryz.func132,by decide,rfl⟩
theorem en_131:aH Tryz.prog 131:=⟨_,Tryz.func131,by decide,rfl⟩
theorem en_43:aH Tryz.prog 43:=⟨_,Tryz.func43,by decide,rfl⟩
abbrev dk:Nat:=192
theorem en_33:aH Tryz.prog 33:=⟨_,Tryz.func33,by decide,rfl⟩
abbrev uD:Nat:=84
theorem en_84:aH Tryz.prog 84:=⟨_,Tryz.func84,by decide,rfl⟩
abbrev oR:Nat:=39
abbrev oS:Nat:=40
theorem en_40:aH Tryz.prog 40:=⟨_,Tryz.func40,by decide,rfl⟩
theorem en_39:aH Tryz.prog 39:=⟨_,Tryz.func39,by decide,rfl⟩
abbrev uV:Nat:=19
def pj (r:Ptr):Value:=(pv r)
theorem build_157_0 (y0:Sl):∀ w,(Instr.build 157 #[(0,(sv y0))]).run Tryz.prog w = .ok (.agg (oe.C (⟨y0⟩:oe)).toArray) w:=fun _=>by kernel_rfl
abbrev lb:Nat:=157
abbrev tu:Nat:=49
def iK (r:Ptr):Value:=(pv r)
theorem build_160_1 (y1:Sl):∀ w,(Instr.build 160 #[(1,(sv y1))]).run Tryz.prog w = .ok (.agg (jK.C (⟨(⟨none,0,0,none⟩:Sl),y1⟩:jK)).toArray) w:=fun _=>by kernel_rfl
abbrev hU:Nat:=160
abbrev nT:Nat:=50
abbrev rm:Nat:=97
def gC (r:Ptr):Value:=(pv r)
abbrev pX:Nat:=166
theorem en_97:aH Tryz.prog 97:=⟨_,Tryz.func97,by decide,rfl⟩
abbrev iH:Nat:=51
def sB (r:Ptr):Value:=(pv r)
abbrev mQ:Nat:=87
def qy (r:Sl):Value:=(sv r)
theorem nG (y0:Ptr) (y1:Int) (y3:Ptr) (y4:Ptr) (y5:Sl):∀ w,(Instr.build 89 #[(0,(pv y0)),(1,(.int .i64 y1)),(3,(pv y3)),(4,(pv y4)),(5,(sv y5))]).run Tryz.prog w = .ok (.agg (fF.C (⟨y0,y1,(⟨none,0,0,none⟩:Sl),y3,y4,y5,(⟨none,0,0,none⟩:Sl),0⟩:fF)).toArray) w:=fun _=>by kernel_rfl
abbrev bR:Nat:=84
def dQ (r:Sl):Value:=(sv r)
theorem inf_84:∃ i,Tryz.prog.info? 84 = some i∧i.size = 1:=bG (by kernel_rfl)
theorem en_51:aH Tryz.prog 51:=⟨_,Tryz.func51,by decide,rfl⟩
abbrev ci:Nat:=89
theorem en_50:aH Tryz.prog 50:=⟨_,Tryz.func50,by decide,rfl⟩
theorem en_49:aH Tryz.prog 49:=⟨_,Tryz.func49,by decide,rfl⟩
abbrev xe:Nat:=21
def fo (r:Sl):Value:=(sv r)
abbrev mP:Nat:=68
abbrev jQ:Nat:=30
def gZ (r:Sl):Value:=(sv r)
abbrev lc:Nat:=59
theorem build_63_0_1 (y0:Int) (y1:Int):∀ w,(Instr.build 63 #[(0,(.int .i64 y0)),(1,(.int .i64 y1))]).run Tryz.prog w = .ok (.agg (ch.C (⟨y0,y1,0,(⟨0,0,0,0,0⟩:ai),0,0⟩:ch)).toArray) w:=fun _=>by kernel_rfl
abbrev uW:Nat:=41
abbrev lV:Nat:=92
theorem en_92:aH Tryz.prog 92:=⟨_,Tryz.func92,by decide,rfl⟩
abbrev mG:Nat:=46
abbrev wZ:Nat:=176
theorem en_176:aH Tryz.prog 176:=⟨_,Tryz.func176,by decide,rfl⟩
abbrev n_user_Do:Nat:=136
def iz (r:Value):Value:=(r)
theorem build_248_0_1 (y0:Int) (y1:Int):∀ w,(Instr.build 248 #[(0,(.int .i64 y0)),(1,(.int .i64 y1))]).run Tryz.prog w = .ok (.agg (cd.C (⟨y0,y1,(⟨0,0,0,0,0⟩:ai),Value.nilIface⟩:cd)).toArray) w:=fun _=>by kernel_rfl
abbrev bf:Nat:=246
abbrev nJ:Nat:=248
abbrev kx:Nat:=142
abbrev fZ:Nat:=182
theorem ag_295:Ag Tryz.prog 295 3:=⟨⟨_,Tryz.underlying295,rfl⟩,bG (by kernel_rfl)⟩
abbrev fe:Nat:=229
def fA (r:aJ):Value:=(.agg (aJ.C r).toArray)
abbrev cU:Nat:=225
abbrev fu:Nat:=230
abbrev gj:Nat:=195
abbrev jj:Nat:=275
def gg (r:Value × Bool):Value:=.tuple #[(r.1),(.bool r.2)]
abbrev iC:Nat:=277
def fV (r:Value × Bool):Value:=.tuple #[(r.1),(.bool r.2)]
def R_Serror (r:Sl):Value:=(sv r)
theorem slc_278:Slc Tryz.prog 278 195 1:=⟨Tryz.underlying278,bG (by kernel_rfl)⟩
abbrev uE:Nat:=228
theorem en_228:aH Tryz.prog 228:=⟨_,Tryz.func228,by decide,rfl⟩
theorem sc_195:Sc Tryz.prog 195:=⟨⟨_,Tryz.underlying195,rfl⟩,bG (by kernel_rfl)⟩
abbrev qE:Nat:=304
def nH (r:Value × Bool):Value:=.tuple #[(r.1),(.bool r.2)]
theorem zero_295:∃ i,Tryz.prog.info? 295 = some i∧i.zero = some (.agg (aJ.C (⟨none,none,0⟩:aJ)).toArray):=kP (by kernel_rfl)
abbrev iA:Nat:=226
def R_abi_Kind (r:Int):Value:=(.int .u8 r)
def str_6ae768b9:ByteArray:=⟨#[101,114,114,111,114,115,58,32,42,116,97,114,103,101,116,32,109,117,115,116,32,98,101,32,105,110,116,101,114,102,97,99,101,32,111,114,32,105,109,112,108,101,109,101,110,116,32,101,114,114,111,114]⟩
abbrev vj:Nat:=9
theorem sc_243:Sc Tryz.prog 243:=⟨⟨_,Tryz.underlying243,rfl⟩,bG (by kernel_rfl)⟩
abbrev eR:Nat:=227
def str_ae9b7a08:ByteArray:=⟨#[101,114,114,111,114,115,58,32,116,97,114,103,101,116,32,109,117,115,116,32,98,101,32,97,32,110,111,110,45,110,105,108,32,112,111,105,110,116,101,114]⟩
theorem inf_295:∃ i,Tryz.prog.info? 295 = some i∧i.size = 3:=bG (by kernel_rfl)
def str_53947bae:ByteArray:=⟨#[101,114,114,111,114,115,58,32,116,97,114,103,101,116,32,99,97,110,110,111,116,32,98,101,32,110,105,108]⟩
abbrev uF:Nat:=223
def eI (r:Ptr × Bool):Value:=.tuple #[(pv r.1),(.bool r.2)]
theorem zero_246:∃ i,Tryz.prog.info? 246 = some i∧i.zero = some (pv none):=kP (by kernel_rfl)
theorem sc_246:Sc Tryz.prog 246:=⟨⟨_,Tryz.underlying246,rfl⟩,bG (by kernel_rfl)⟩
abbrev bA:Nat:=289
theorem en_223:aH Tryz.prog 223:=⟨_,Tryz.func223,by decide,rfl⟩
abbrev jW:Nat:=217
theorem vZ:Fld Tryz.prog 248 0 0:=bW (m:=1) Tryz.underlying248 rfl rfl (by kernel_rfl) (by decide)
theorem en_217:aH Tryz.prog 217:=⟨_,Tryz.func217,by decide,rfl⟩
abbrev uC:Nat:=201
def R_trap_Trap (r:cd):Value:=(.agg (cd.C r).toArray)
theorem en_201:aH Tryz.prog 201:=⟨_,Tryz.func201,by decide,rfl⟩
abbrev n_trap_In:Nat:=177
theorem xz:aH Tryz.prog 142:=⟨_,Tryz.func142,by decide,rfl⟩
theorem en_177:aH Tryz.prog 177:=⟨_,Tryz.func177,by decide,rfl⟩
abbrev nu:Nat:=137
def pn (r:Ptr):Value:=(pv r)
theorem build_284_0 (y0:Int):∀ w,(Instr.build 284 #[(0,(.int .u64 y0))]).run Tryz.prog w = .ok (.agg (og.C (⟨y0,0⟩:og)).toArray) w:=fun _=>by kernel_rfl
abbrev qF:Nat:=284
abbrev tx:Nat:=202
def tR (r:Ptr):Value:=(pv r)
theorem build_286_0_1 (y0:Ptr) (y1:Ptr):∀ w,(Instr.build 286 #[(0,(pv y0)),(1,(pv y1))]).run Tryz.prog w = .ok (.agg (kB.C (⟨y0,y1⟩:kB)).toArray) w:=fun _=>by kernel_rfl
abbrev mO:Nat:=286
theorem en_202:aH Tryz.prog 202:=⟨_,Tryz.func202,by decide,rfl⟩
abbrev xc:Nat:=203
theorem sH:Fld Tryz.prog 284 1 1:=bW (m:=1) Tryz.underlying284 rfl rfl (by kernel_rfl) (by decide)
theorem nX:Fld Tryz.prog 284 0 0:=bW (m:=1) Tryz.underlying284 rfl rfl (by kernel_rfl) (by decide)
abbrev oW:Nat:=204
theorem fld_286_0:Fld Tryz.prog 286 0 0:=bW (m:=1) Tryz.underlying286 rfl rfl (by kernel_rfl) (by decide)
theorem en_204:aH Tryz.prog 204:=⟨_,Tryz.func204,by decide,rfl⟩
theorem sc_264:Sc Tryz.prog 264:=⟨⟨_,Tryz.underlying264,rfl⟩,bG (by kernel_rfl)⟩
abbrev nt:Nat:=205
abbrev nR:Nat:=183
theorem en_183:aH Tryz.prog 183:=⟨_,Tryz.func183,by decide,rfl⟩
abbrev mu:Nat:=272
def jL (r:Value × Bool):Value:=.tuple #[(r.1),(.bool r.2)]
abbrev nS:Nat:=141
theorem fld_248_3:Fld Tryz.prog 248 3 7:=bW (m:=1) Tryz.underlying248 rfl rfl (by kernel_rfl) (by decide)
abbrev xa:Nat:=224
theorem ms (y0:Int) (y1:Int):∀ w,(Instr.build 34 #[(0,(.int .u64 y0)),(1,(.int .u64 y1))]).run Tryz.prog w = .ok (.agg (ai.C (⟨y0,y1,0,0,0⟩:ai)).toArray) w:=fun _=>by kernel_rfl
theorem fld_248_1:Fld Tryz.prog 248 1 1:=bW (m:=1) Tryz.underlying248 rfl rfl (by kernel_rfl) (by decide)
theorem fld_248_2:Fld Tryz.prog 248 2 2:=bW (m:=5) Tryz.underlying248 rfl rfl (by kernel_rfl) (by decide)
def ai.eqb (x y:ai):Bool:=((x.e0 == y.e0) && ((x.e1 == y.e1) && ((x.e2 == y.e2) && ((x.e3 == y.e3) && ((x.e4 == y.e4) && true)))))
theorem eqr_34 (n:Nat) (x y:ai):EqR Tryz.prog (n + 2) 34 (.agg (ai.C x).toArray) (.agg (ai.C y).toArray) (ai.eqb x y):=eqr_arr Tryz.underlying34 inf_22 ⟨_,_,_,_,(gV cx rfl),(gV cx rfl),(js (n:=n + 0) Tryz.underlying22),⟨_,_,_,_,(gV cx rfl),(gV cx rfl),(js (n:=n + 0) Tryz.underlying22),⟨_,_,_,_,(gV cx rfl),(gV cx rfl),(js (n:=n + 0) Tryz.underlying22),⟨_,_,_,_,(gV cx rfl),(gV cx rfl),(js (n:=n + 0) Tryz.underlying22),⟨_,_,_,_,(gV cx rfl),(gV cx rfl),(js (n:=n + 0) Tryz.underlying22),rfl,rfl⟩,rfl⟩,rfl⟩,rfl⟩,rfl⟩
theorem eqg_34:Tryz.prog.eqGuardType Tryz.prog.depth 34 = false:=by kernel_rfl
def dU (r:ByteArray):Value:=(.string r)
def ou:ByteArray:=⟨#[116,114,97,112,32,51,58,32,116,114,97,112,32,51]⟩
theorem en_141:aH Tryz.prog 141:=⟨_,Tryz.func141,by decide,rfl⟩
theorem en_224:aH Tryz.prog 224:=⟨_,Tryz.func224,by decide,rfl⟩
abbrev ly:Nat:=218
theorem en_218:aH Tryz.prog 218:=⟨_,Tryz.func218,by decide,rfl⟩
abbrev lz:Nat:=206
abbrev me:Nat:=219
theorem fld_286_1:Fld Tryz.prog 286 1 1:=bW (m:=1) Tryz.underlying286 rfl rfl (by kernel_rfl) (by decide)
theorem en_219:aH Tryz.prog 219:=⟨_,Tryz.func219,by decide,rfl⟩
abbrev jX:Nat:=207
abbrev rq:Nat:=220
theorem en_220:aH Tryz.prog 220:=⟨_,Tryz.func220,by decide,rfl⟩
theorem en_207:aH Tryz.prog 207:=⟨_,Tryz.func207,by decide,rfl⟩
abbrev ns:Nat:=208
abbrev n_word_Args:Nat:=209
abbrev qd:Nat:=210
theorem build_34_0 (y0:Int):∀ w,(Instr.build 34 #[(0,(.int .u64 y0))]).run Tryz.prog w = .ok (.agg (ai.C (⟨y0,0,0,0,0⟩:ai)).toArray) w:=fun _=>by kernel_rfl
theorem jJ (y0:Int) (y1:Int) (y2:Int) (y3:Int):∀ w,(Instr.build 34 #[(0,(.int .u64 y0)),(1,(.int .u64 y1)),(2,(.int .u64 y2)),(3,(.int .u64 y3))]).run Tryz.prog w = .ok (.agg (ai.C (⟨y0,y1,y2,y3,0⟩:ai)).toArray) w:=fun _=>by kernel_rfl
theorem en_210:aH Tryz.prog 210:=⟨_,Tryz.func210,by decide,rfl⟩
theorem en_209:aH Tryz.prog 209:=⟨_,Tryz.func209,by decide,rfl⟩
theorem en_208:aH Tryz.prog 208:=⟨_,Tryz.func208,by decide,rfl⟩
theorem en_206:aH Tryz.prog 206:=⟨_,Tryz.func206,by decide,rfl⟩
theorem en_205:aH Tryz.prog 205:=⟨_,Tryz.func205,by decide,rfl⟩
theorem en_203:aH Tryz.prog 203:=⟨_,Tryz.func203,by decide,rfl⟩
abbrev lw:Nat:=178
theorem en_178:aH Tryz.prog 178:=⟨_,Tryz.func178,by decide,rfl⟩
abbrev lx:Nat:=138
theorem tO (y0:Int) (y1:Int) (y2:Int):∀ w,(Instr.build 27 #[(0,(.int .i64 y0)),(1,(.int .i64 y1)),(2,(.int .i64 y2))]).run Tryz.prog w = .ok (.agg (ax.C (⟨y0,y1,y2⟩:ax)).toArray) w:=fun _=>by kernel_rfl
theorem tM (y0:Int) (y1:Int) (y2:Int):∀ w,(Instr.build 34 #[(0,(.int .u64 y0)),(1,(.int .u64 y1)),(2,(.int .u64 y2))]).run Tryz.prog w = .ok (.agg (ai.C (⟨y0,y1,y2,0,0⟩:ai)).toArray) w:=fun _=>by kernel_rfl
theorem en_46:aH Tryz.prog 46:=⟨_,Tryz.func46,by decide,rfl⟩
theorem en_138:aH Tryz.prog 138:=⟨_,Tryz.func138,by decide,rfl⟩
theorem en_137:aH Tryz.prog 137:=⟨_,Tryz.func137,by decide,rfl⟩
theorem en_136:aH Tryz.prog 136:=⟨_,Tryz.func136,by decide,rfl⟩
abbrev kG:Nat:=85
theorem en_85:aH Tryz.prog 85:=⟨_,Tryz.func85,by decide,rfl⟩
abbrev kH:Nat:=42
theorem slc_59:Slc Tryz.prog 59 63 10:=⟨Tryz.underlying59,bG (by kernel_rfl)⟩
theorem zero_63:∃ i,Tryz.prog.info? 63 = some i∧i.zero = some (.agg (ch.C (⟨0,0,0,(⟨0,0,0,0,0⟩:ai),0,0⟩:ch)).toArray):=kP (by kernel_rfl)
theorem fld_63_0:Fld Tryz.prog 63 0 0:=bW (m:=1) Tryz.underlying63 rfl rfl (by kernel_rfl) (by decide)
theorem fld_63_1:Fld Tryz.prog 63 1 1:=bW (m:=1) Tryz.underlying63 rfl rfl (by kernel_rfl) (by decide)
theorem inf_63:∃ i,Tryz.prog.info? 63 = some i∧i.size = 10:=bG (by kernel_rfl)
theorem ag_63:Ag Tryz.prog 63 10:=⟨⟨_,Tryz.underlying63,rfl⟩,bG (by kernel_rfl)⟩
abbrev oV:Nat:=90
theorem en_90:aH Tryz.prog 90:=⟨_,Tryz.func90,by decide,rfl⟩
abbrev n_fair_Fair:Nat:=44
theorem zero_27:∃ i,Tryz.prog.info? 27 = some i∧i.zero = some (.agg (ax.C (⟨0,0,0⟩:ax)).toArray):=kP (by kernel_rfl)
theorem en_19:aH Tryz.prog 19:=⟨_,Tryz.func19,by decide,rfl⟩
theorem en_30:aH Tryz.prog 30:=⟨_,Tryz.func30,by decide,rfl⟩
theorem en_44:aH Tryz.prog 44:=⟨_,Tryz.func44,by decide,rfl⟩
theorem en_42:aH Tryz.prog 42:=⟨_,Tryz.func42,by decide,rfl⟩
theorem en_41:aH Tryz.prog 41:=⟨_,Tryz.func41,by decide,rfl⟩
theorem en_16:aH Tryz.prog 16:=⟨_,Tryz.func16,by decide,rfl⟩
theorem en_21:aH Tryz.prog 21:=⟨_,Tryz.func21,by decide,rfl⟩
theorem inf_27:∃ i,Tryz.prog.info? 27 = some i∧i.size = 3:=bG (by kernel_rfl)
abbrev kF:Nat:=14
theorem en_14:aH Tryz.prog 14:=⟨_,Tryz.func14,by decide,rfl⟩
abbrev t_api_Event:Nat:=54
abbrev t_api_Answer:Nat:=30
def R_api_Size (r:ax):Value:=(.agg (ax.C r).toArray)
abbrev qT:Nat:=27
abbrev mH:Nat:=28
abbrev rl:Nat:=125
theorem en_125:aH Tryz.prog 125:=⟨_,Tryz.func125,by decide,rfl⟩
abbrev oQ:Nat:=65
theorem fld_63_2:Fld Tryz.prog 63 2 2:=bW (m:=1) Tryz.underlying63 rfl rfl (by kernel_rfl) (by decide)
theorem fld_63_3:Fld Tryz.prog 63 3 3:=bW (m:=5) Tryz.underlying63 rfl rfl (by kernel_rfl) (by decide)
theorem fld_63_4:Fld Tryz.prog 63 4 8:=bW (m:=1) Tryz.underlying63 rfl rfl (by kernel_rfl) (by decide)
theorem fld_63_5:Fld Tryz.prog 63 5 9:=bW (m:=1) Tryz.underlying63 rfl rfl (by kernel_rfl) (by decide)
theorem en_65:aH Tryz.prog 65:=⟨_,Tryz.func65,by decide,rfl⟩
abbrev nv:Nat:=29
theorem en_29:aH Tryz.prog 29:=⟨_,Tryz.func29,by decide,rfl⟩
theorem en_28:aH Tryz.prog 28:=⟨_,Tryz.func28,by decide,rfl⟩
theorem en_27:aH Tryz.prog 27:=⟨_,Tryz.func27,by decide,rfl⟩
theorem slc_68:Slc Tryz.prog 68 30 2:=⟨Tryz.underlying68,bG (by kernel_rfl)⟩
abbrev gE:Nat:=66
theorem en_66:aH Tryz.prog 66:=⟨_,Tryz.func66,by decide,rfl⟩
abbrev n_twin_Same:Nat:=31
abbrev oU:Nat:=68
abbrev n_hist_Done:Nat:=32
theorem en_32:aH Tryz.prog 32:=⟨_,Tryz.func32,by decide,rfl⟩
theorem en_31:aH Tryz.prog 31:=⟨_,Tryz.func31,by decide,rfl⟩
abbrev mU:Nat:=10
def iy.eqb (x y:iy):Bool:=((x.fEnv == y.fEnv) && ((x.fSlot == y.fSlot) && true))
def str_73df774b:ByteArray:=⟨#[48,49,50,51,52,53,54,55,56,57,97,98,99,100,101,102,103,104,105,106,107,108,109,110,111,112,113,114,115,116,117,118,119,120,121,122]⟩
def str_e9752c08:ByteArray:=⟨#[48,48,48,49,48,50,48,51,48,52,48,53,48,54,48,55,48,56,48,57,49,48,49,49,49,50,49,51,49,52,49,53,49,54,49,55,49,56,49,57,50,48,50,49,50,50,50,51,50,52,50,53,50,54,50,55,50,56,50,57,51,48,51,49,51,50,51,51,51,52,51,53,51,54,51,55,51,56,51,57,52,48,52,49,52,50,52,51,52,52,52,53,52,54,52,55,52,56,52,57,53,48,53,49,53,50,53,51,53,52,53,53,53,54,53,55,53,56,53,57,54,48,54,49,54,50,54,51,54,52,54,53,54,54,54,55,54,56,54,57,55,48,55,49,55,50,55,51,55,52,55,53,55,54,55,55,55,56,55,57,56,48,56,49,56,50,56,51,56,52,56,53,56,54,56,55,56,56,56,57,57,48,57,49,57,50,57,51,57,52,57,53,57,54,57,55,57,56,57,57]⟩
abbrev jl:Nat:=255
abbrev ro:Nat:=256
theorem inf_5:∃ i,Tryz.prog.info? 5 = some i∧i.size = 1:=bG (by kernel_rfl)
abbrev px:Nat:=257
def R_Suint8_string (r:Sl × ByteArray):Value:=.tuple #[(sv r.1),(.string r.2)]
def R_Suint8 (r:Sl):Value:=(sv r)
abbrev qU:Nat:=258
theorem en_255:aH Tryz.prog 255:=⟨_,Tryz.func255,by decide,rfl⟩
theorem zero_325:∃ i,Tryz.prog.info? 325 = some i∧i.zero = some (.agg [.int .u8 0,.int .u8 0,.int .u8 0,.int .u8 0,.int .u8 0,.int .u8 0,.int .u8 0,.int .u8 0,.int .u8 0,.int .u8 0,.int .u8 0,.int .u8 0,.int .u8 0,.int .u8 0,.int .u8 0,.int .u8 0,.int .u8 0,.int .u8 0,.int .u8 0,.int .u8 0,.int .u8 0,.int .u8 0,.int .u8 0,.int .u8 0].toArray):=kP (by kernel_rfl)
abbrev wt:Nat:=325
theorem arr_325:Arr Tryz.prog 325 24 5 1:=⟨Tryz.underlying325,bG (by kernel_rfl)⟩
theorem en_257:aH Tryz.prog 257:=⟨_,Tryz.func257,by decide,rfl⟩
theorem en_256:aH Tryz.prog 256:=⟨_,Tryz.func256,by decide,rfl⟩
theorem en_258:aH Tryz.prog 258:=⟨_,Tryz.func258,by decide,rfl⟩
abbrev gx:Nat:=254
theorem en_254:aH Tryz.prog 254:=⟨_,Tryz.func254,by decide,rfl⟩
abbrev jz:Nat:=253
theorem en_253:aH Tryz.prog 253:=⟨_,Tryz.func253,by decide,rfl⟩
abbrev tq:Nat:=252
theorem en_252:aH Tryz.prog 252:=⟨_,Tryz.func252,by decide,rfl⟩
abbrev iT:Nat:=249
abbrev tm:Nat:=250
abbrev nr:Nat:=251
abbrev t_api_Pick:Nat:=63
abbrev sN:Nat:=94
abbrev fq:Nat:=96
abbrev dY:Nat:=153
abbrev t_uint64:Nat:=22
abbrev t_api_Line:Nat:=52
abbrev t_api_Pte:Nat:=121
abbrev t_bool:Nat:=4
abbrev rz:Nat:=270
abbrev t_tlb_line:Nat:=162
end Go.Proofs.YtmggcfijlpldpaaGreatDoor
namespace Go.Proofs.YtmggcfijlpldpaaGreatDoor
open Go Mb
set_option linter.unusedVariables false
theorem el_Sint:El Tryz.prog dH kR 1 8 [.int .i64 0]:=wg Tryz.underlying40 (by kernel_rfl) rfl
theorem qv:El Tryz.prog eN t_api_Event 16 128 [.int .i64 0,.int .i64 0,.int .u64 0,.int .u64 0,.int .u64 0,.int .u64 0,.int .u64 0,.int .i64 0,.int .i64 0,.int .i64 0,.int .i64 0,.int .u64 0,.int .i64 0,.int .i64 0,.int .i64 0,.int .i64 0]:=wg Tryz.underlying43 (by kernel_rfl) rfl
theorem xA:El Tryz.prog lc t_api_Pick 10 80 [.int .i64 0,.int .i64 0,.int .i64 0,.int .u64 0,.int .u64 0,.int .u64 0,.int .u64 0,.int .u64 0,.int .i64 0,.int .i64 0]:=wg Tryz.underlying59 (by kernel_rfl) rfl
theorem el_Sapi_Answer:El Tryz.prog mP t_api_Answer 2 16 [.int .i64 0,.int .u64 0]:=wg Tryz.underlying68 (by kernel_rfl) rfl
theorem el_SPtlb_Tlb:El Tryz.prog bR sN 1 8 [pv none]:=wg Tryz.underlying84 (by kernel_rfl) rfl
theorem el_SPkern_call:El Tryz.prog mQ fq 1 8 [pv none]:=wg Tryz.underlying87 (by kernel_rfl) rfl
theorem wh:El Tryz.prog eO dY 1 8 [pv none]:=wg Tryz.underlying145 (by kernel_rfl) rfl
theorem uJ:El Tryz.prog pZ bd 1 24 [sv (⟨none,0,0,none⟩:Sl)]:=wg Tryz.underlying155 (by kernel_rfl) rfl
theorem fU:El Tryz.prog bd t_uint64 1 8 [.int .u64 0]:=wg Tryz.underlying158 (by kernel_rfl) rfl
theorem el_Sapi_Line:El Tryz.prog qG t_api_Line 4 32 [.int .i64 0,.int .i64 0,.int .i64 0,.int .i64 0]:=wg Tryz.underlying173 (by kernel_rfl) rfl
theorem tK:El Tryz.prog gT rU 2 16 [.int .i64 0,.int .i64 0]:=wg Tryz.underlying197 (by kernel_rfl) rfl
theorem el_S_8_api_Cap:El Tryz.prog t_S_8_api_Cap lf 32 256 [.int .i64 0,.int .i64 0,.int .i64 0,.int .i64 0,.int .i64 0,.int .i64 0,.int .i64 0,.int .i64 0,.int .i64 0,.int .i64 0,.int .i64 0,.int .i64 0,.int .i64 0,.int .i64 0,.int .i64 0,.int .i64 0,.int .i64 0,.int .i64 0,.int .i64 0,.int .i64 0,.int .i64 0,.int .i64 0,.int .i64 0,.int .i64 0,.int .i64 0,.int .i64 0,.int .i64 0,.int .i64 0,.int .i64 0,.int .i64 0,.int .i64 0,.int .i64 0]:=wg Tryz.underlying203 (by kernel_rfl) rfl
theorem el_Sapi_Pte:El Tryz.prog pY t_api_Pte 3 24 [.int .i64 0,.int .i64 0,.int .i64 0]:=wg Tryz.underlying234 (by kernel_rfl) rfl
theorem enter_hist_Done_c1:aH Tryz.prog oU:=⟨_,Tryz.func68,by decide,rfl⟩
theorem enter_hist_Order_c1:aH Tryz.prog nh:=⟨_,Tryz.func86,by decide,rfl⟩
theorem enter_hist_Order_c2:aH Tryz.prog rp:=⟨_,Tryz.func88,by decide,rfl⟩
theorem uZ:aH Tryz.prog lD:=⟨_,Tryz.func180,by decide,rfl⟩
theorem we:aH Tryz.prog gH:=⟨_,Tryz.func197,by decide,rfl⟩
theorem enter_hist_Over_c1:aH Tryz.prog tv:=⟨_,Tryz.func215,by decide,rfl⟩
theorem mp_map_int_bool:Mp Tryz.prog ju kR t_bool (.bool false):=⟨Tryz.underlying50,⟨_,Tryz.underlying3⟩,kP (by kernel_rfl)⟩
theorem mp_map_int_int:Mp Tryz.prog gS kR kR (.int .i64 0):=⟨Tryz.underlying113,⟨_,Tryz.underlying3⟩,kP (by kernel_rfl)⟩
theorem agn_8_api_Pte:Ag Tryz.prog tZ 24:=⟨⟨_,Tryz.underlying122,rfl⟩,bG (by kernel_rfl)⟩
theorem arn_8_api_Pte:Tryz.prog.underlying tZ = some (.array 8 t_api_Pte):=Tryz.underlying122
theorem age_8_api_Pte:Ag Tryz.prog t_api_Pte 3:=⟨⟨_,Tryz.underlying121,rfl⟩,bG (by kernel_rfl)⟩
theorem arn_2_tlb_line:Tryz.prog.underlying t_2_tlb_line = some (.array 2 t_tlb_line):=Tryz.underlying163
theorem age_2_tlb_line:Ag Tryz.prog t_tlb_line 5:=⟨⟨_,Tryz.underlying162,rfl⟩,bG (by kernel_rfl)⟩
theorem agn_8_api_Cap:Ag Tryz.prog lf 32:=⟨⟨_,Tryz.underlying202,rfl⟩,bG (by kernel_rfl)⟩
theorem arn_8_api_Cap:Tryz.prog.underlying lf = some (.array 8 fL):=Tryz.underlying202
theorem age_8_api_Cap:Ag Tryz.prog fL 4:=⟨⟨_,Tryz.underlying37,rfl⟩,bG (by kernel_rfl)⟩
end Go.Proofs.YtmggcfijlpldpaaGreatDoor
namespace Go.Proofs.YtmggcfijlpldpaaGreatDoor
open Go Mb
set_option linter.unusedVariables false
def sh_word_Kind (a0:ai) (K:(Int × Bool)→Hp→Prop):Hp→Prop:=br (((decide (a0.e0 ≥ 1)) && (decide (a0.e0 ≤ 10))) || ((decide (a0.e0 ≥ 20)) && (decide (a0.e0 ≤ 23)))) ( K ((IntKind.i64.wrap a0.e0),true)) ( K (0,false))
theorem sim_word_Kind (a0:ai) {K:(Int × Bool)→Hp→Prop} {h:Hp} (H:sh_word_Kind a0 K h):Ct Tryz.prog n_word_Kind #[(.agg (ai.C a0).toArray)] h fun v h'=>∃ r,v = bM r∧K r h':=au [(.agg (ai.C a0).toArray)] Tryz.func53 c c c fun _=>M<|aa<|cz (l:=ai.C a0) c c c fun b1=>p (ar c)<|O c<|ak<|M<|p (bu de c c (by decide))<|be (bb (k:=0) cx c c c) c<|O c<|M<|J c<|p (jo c c)<|J c<|V c c (aw _) (fun g1=>wv<|ag c)<|V c c (aw _) (fun g2=>wv<|v_le (aD c g2) c)<|p (bU c c)<|J c<|V c c (aK _) (fun g3=>wv<|ag c)<|V c c (aK _) (fun g4=>wv<|jo (aD c g4) c)<|V c c (aK _) (fun g5=>wv<|ag<|aD c g5)<|V c c (ry _ _) (fun g6=>wv<|ag c)<|V c c (ry _ _) (fun g7=>wv<|v_le (aD c g7) c)<|V c c (aK _) (fun g8=>wv<|bU (aD c g8)<|aL c<|xp g8)<|p (dp c c)<|ad<|av c H (fun k9 H10=>M<|J c<|p (dX ⟨_,Tryz.underlying22⟩ Tryz.underlying3 c)<|p (ar c)<|O c<|ah<|bw (bS c (ce c)<|ce c) ⟨((IntKind.i64.wrap a0.e0),true),c,H10⟩) fun k9 H10=>an<|M<|p (ar c)<|O c<|ah<|bw (bS c (ce c)<|ce c) ⟨(0,false),c,H10⟩
def aC (a0:ai):Int × Bool:=(bif (((decide (a0.e0 ≥ 1)) && (decide (a0.e0 ≤ 10))) || ((decide (a0.e0 ≥ 20)) && (decide (a0.e0 ≤ 23)))) then (((IntKind.i64.wrap a0.e0),true)) else ((0,false)))
theorem pr_word_Kind (a0:ai) {K:(Int × Bool)→Hp→Prop} {h:Hp} (k:K (aC a0) h):sh_word_Kind a0 K h:=(kj (K:=K) (fun k=>k) (fun k=>k)) k
theorem kh (a0:ai) (h:Hp):Ct Tryz.prog n_word_Kind #[(.agg (ai.C a0).toArray)] h fun v h'=>∃ r,v = bM r∧(r = aC a0∧h' = h):=sim_word_Kind a0 (pr_word_Kind a0 ⟨rfl,rfl⟩)
def sh_word_User (a0:Int) (K:Bool→Hp→Prop):Hp→Prop:=K ((decide (a0 ≥ 20)) && (decide (a0 ≤ 23)))
theorem sim_word_User (a0:Int) {K:Bool→Hp→Prop} {h:Hp} (H:sh_word_User a0 K h):Ct Tryz.prog n_word_User #[(.int .i64 a0)] h fun v h'=>∃ r,v = az r∧K r h':=au [(.int .i64 a0)] Tryz.func54 c c c fun _=>M<|O c<|M<|J c<|p (jo c c)<|J c<|V c c (aw _) (fun g1=>wv<|ag c)<|V c c (aw _) (fun g2=>wv<|v_le (aD c g2) c)<|p (bU c c)<|O c<|ah<|Y ⟨((decide (a0 ≥ 20)) && (decide (a0 ≤ 23))),c,H⟩
def cM (a0:Int):Bool:=(((decide (a0 ≥ 20)) && (decide (a0 ≤ 23))))
theorem pr_word_User (a0:Int) {K:Bool→Hp→Prop} {h:Hp} (k:K (cM a0) h):sh_word_User a0 K h:=(fun k=>k) k
theorem sx (a0:Int) (h:Hp):Ct Tryz.prog n_word_User #[(.int .i64 a0)] h fun v h'=>∃ r,v = az r∧(r = cM a0∧h' = h):=sim_word_User a0 (pr_word_User a0 ⟨rfl,rfl⟩)
def sh_word_Rights (a0:Int) (K:(Int × Bool)→Hp→Prop):Hp→Prop:=br ((decide (a0 < 1)) || (decide (a0 > 3))) ( K (0,false)) ( K ((IntKind.i64.wrap a0),true))
theorem sim_word_Rights (a0:Int) {K:(Int × Bool)→Hp→Prop} {h:Hp} (H:sh_word_Rights a0 K h):Ct Tryz.prog n_word_Rights #[(.int .u64 a0)] h fun v h'=>∃ r,v = bM r∧K r h':=au [(.int .u64 a0)] Tryz.func186 c c c fun _=>M<|p (ar c)<|O c<|ak<|M<|J c<|p (cu c c)<|J c<|V c c (aK _) (fun g1=>wv<|ag c)<|V c c (aK _) (fun g2=>wv<|qB (aD c g2) c)<|p (dp c c)<|ad<|av c H (fun k3 H4=>M<|p (ar c)<|O c<|ah<|bw (bS c (ce c)<|ce c) ⟨(0,false),c,H4⟩) fun k3 H4=>an<|M<|J c<|p (dX ⟨_,Tryz.underlying22⟩ Tryz.underlying3 c)<|p (ar c)<|O c<|ah<|bw (bS c (ce c)<|ce c) ⟨((IntKind.i64.wrap a0),true),c,H4⟩
def ia (a0:Int):Int × Bool:=(bif ((decide (a0 < 1)) || (decide (a0 > 3))) then ((0,false)) else (((IntKind.i64.wrap a0),true)))
theorem pr_word_Rights (a0:Int) {K:(Int × Bool)→Hp→Prop} {h:Hp} (k:K (ia a0) h):sh_word_Rights a0 K h:=(kj (K:=K) (fun k=>k) (fun k=>k)) k
theorem ct_word_Rights (a0:Int) (h:Hp):Ct Tryz.prog n_word_Rights #[(.int .u64 a0)] h fun v h'=>∃ r,v = bM r∧(r = ia a0∧h' = h):=sim_word_Rights a0 (pr_word_Rights a0 ⟨rfl,rfl⟩)
def sh_table_is (a0:Int) (K:Bool→Hp→Prop):Hp→Prop:=K ((decide (a0 ≥ 0)) && (decide (a0 < 8)))
theorem sim_table_is (a0:Int) {K:Bool→Hp→Prop} {h:Hp} (H:sh_table_is a0 K h):Ct Tryz.prog n_table_is #[(.int .i64 a0)] h fun v h'=>∃ r,v = az r∧K r h':=au [(.int .i64 a0)] Tryz.func150 c c c fun _=>M<|O c<|M<|J c<|p (jo c c)<|J c<|V c c (aw _) (fun g1=>wv<|ag c)<|V c c (aw _) (fun g2=>wv<|cu (aD c g2) c)<|p (bU c c)<|O c<|ah<|Y ⟨((decide (a0 ≥ 0)) && (decide (a0 < 8))),c,H⟩
def bz (a0:Int):Bool:=(((decide (a0 ≥ 0)) && (decide (a0 < 8))))
theorem pr_table_is (a0:Int) {K:Bool→Hp→Prop} {h:Hp} (k:K (bz a0) h):sh_table_is a0 K h:=(fun k=>k) k
theorem uK (a0:Int) (h:Hp):Ct Tryz.prog n_table_is #[(.int .i64 a0)] h fun v h'=>∃ r,v = az r∧(r = bz a0∧h' = h):=sim_table_is a0 (pr_table_is a0 ⟨rfl,rfl⟩)
def sh_pte_May (a0:Int) (K:Bool→Hp→Prop):Hp→Prop:=K ((decide (a0 ≥ 1)) && (decide (a0 ≤ 3)))
theorem sim_pte_May (a0:Int) {K:Bool→Hp→Prop} {h:Hp} (H:sh_pte_May a0 K h):Ct Tryz.prog n_pte_May #[(.int .i64 a0)] h fun v h'=>∃ r,v = az r∧K r h':=au [(.int .i64 a0)] Tryz.func161 c c c fun _=>M<|O c<|M<|J c<|p (jo c c)<|J c<|V c c (aw _) (fun g1=>wv<|ag c)<|V c c (aw _) (fun g2=>wv<|v_le (aD c g2) c)<|p (bU c c)<|O c<|ah<|Y ⟨((decide (a0 ≥ 1)) && (decide (a0 ≤ 3))),c,H⟩
def cg (a0:Int):Bool:=(((decide (a0 ≥ 1)) && (decide (a0 ≤ 3))))
theorem pr_pte_May (a0:Int) {K:Bool→Hp→Prop} {h:Hp} (k:K (cg a0) h):sh_pte_May a0 K h:=(fun k=>k) k
theorem qm (a0:Int) (h:Hp):Ct Tryz.prog n_pte_May #[(.int .i64 a0)] h fun v h'=>∃ r,v = az r∧(r = cg a0∧h' = h):=sim_pte_May a0 (pr_pte_May a0 ⟨rfl,rfl⟩)
def sh_pte_Within (a0:Int) (a1:Int) (K:Bool→Hp→Prop):Hp→Prop:=K (((cg a0) && (cg a1)) && ((iandnot .i64 a0 a1) == 0))
theorem sim_pte_Within (a0:Int) (a1:Int) {K:Bool→Hp→Prop} {h:Hp} (H:sh_pte_Within a0 a1 K h):Ct Tryz.prog n_pte_Within #[(.int .i64 a0),(.int .i64 a1)] h fun v h'=>∃ r,v = az r∧K r h':=au [(.int .i64 a0),(.int .i64 a1)] Tryz.func106 c c c fun _=>M<|O c<|M<|J c<|aa<|cF (vs:=[(.int .i64 a0)]) (bt<|qm a0 _) en_161 c c<|J c<|V c c (aw _) (fun g1=>wv<|ag c)<|cY (vs:=[(.int .i64 a1)]) c c c (aw _) (fun g2=>bt<|qm a1 _) en_161 (fun g2=>aP (aD c g2) bK) c<|p (bU c c)<|J c<|V c c (aw _) (fun g3=>wv<|ag c)<|V c c (aw _) (fun g4=>wv<|ag c)<|V c c (aw _) (fun g5=>wv<|v_iandnot (aD c g5)<|aD c g5)<|V c c (aw _) (fun g6=>wv<|bN (aD c g6) c)<|p (bU c c)<|O c<|ah<|Y ⟨(((cg a0) && (cg a1)) && ((iandnot .i64 a0 a1) == 0)),c,H⟩
def aT (a0:Int) (a1:Int):Bool:=((((cg a0) && (cg a1)) && ((iandnot .i64 a0 a1) == 0)))
theorem pr_pte_Within (a0:Int) (a1:Int) {K:Bool→Hp→Prop} {h:Hp} (k:K (aT a0 a1) h):sh_pte_Within a0 a1 K h:=(fun k=>k) k
theorem db (a0:Int) (a1:Int) (h:Hp):Ct Tryz.prog n_pte_Within #[(.int .i64 a0),(.int .i64 a1)] h fun v h'=>∃ r,v = az r∧(r = aT a0 a1∧h' = h):=sim_pte_Within a0 a1 (pr_pte_Within a0 a1 ⟨rfl,rfl⟩)
def sh_pte_Put (a0:al) (K:(Int × Bool)→Hp→Prop):Hp→Prop:=br (al.eqb a0 (⟨0,0,0⟩:al)) ( K (0,true)) ( br (((((decide (a0.fFrame < 0)) || (decide (a0.fFrame ≥ 16))) || (decide (a0.fSlot < 0))) || (decide (a0.fSlot ≥ 8))) || (!(cg a0.fRights))) ( K (0,false)) ( K ((IntKind.u64.wrap (IntKind.i64.wrap ((IntKind.i64.wrap ((IntKind.i64.wrap (32768 + (IntKind.i64.wrap (256 * a0.fFrame)))) + (IntKind.i64.wrap (16 * a0.fSlot)))) + a0.fRights))),true)))
theorem sim_pte_Put (a0:al) {K:(Int × Bool)→Hp→Prop} {h:Hp} (H:sh_pte_Put a0 K h):Ct Tryz.prog n_pte_Put #[(.agg (al.C a0).toArray)] h fun v h'=>∃ r,v = bH r∧K r h':=au [(.agg (al.C a0).toArray)] Tryz.func149 c c c fun _=>M<|aa<|cz (l:=al.C a0) c c c fun b1=>p (ar c)<|O c<|ak<|M<|be (bC (k:=0) dK c c c c) c<|p (bc (vs:=[]) c kz)<|p (v_eqA eqg_121 (eqr_121 9998 _ _) c c)<|ad<|av c H (fun k1 H2=>M<|p (ar c)<|O c<|ah<|bw (bS c (ce c)<|ce c) ⟨(0,true),c,H2⟩) fun k1 H2=>an<|ak<|M<|p (ae oa c)<|be (bb (k:=0) aY c c c) c<|p (cu c c)<|J c<|V c c (aK _) (fun g3=>wv<|ae oa c)<|V c c (aK _) (fun g4=>cv<|bb (k:=0) aY (aD c g4) c c)<|V c c (aK _) (fun g5=>wv<|jo (aD c g5) c)<|p (dp c c)<|J c<|V c c (aK _) (fun g6=>wv<|ae qk c)<|V c c (aK _) (fun g7=>cv<|bb (k:=0) aY (aD c g7) c c)<|V c c (aK _) (fun g8=>wv<|cu (aD c g8) c)<|p (dp c c)<|J c<|V c c (aK _) (fun g9=>wv<|ae qk c)<|V c c (aK _) (fun g10=>cv<|bb (k:=0) aY (aD c g10) c c)<|V c c (aK _) (fun g11=>wv<|jo (aD c g11) c)<|p (dp c c)<|J c<|V c c (aK _) (fun g12=>wv<|ae dN c)<|V c c (aK _) (fun g13=>cv<|bb (k:=0) aY (aD c g13) c c)<|cY (vs:=[(.int .i64 a0.fRights)]) c c c (aK _) (fun g14=>bt<|qm a0.fRights _) en_161 (fun g14=>aP (aD c g14) bK) c<|V c c (aK _) (fun g15=>wv<|cr<|aD c g15)<|p (dp c c)<|ad<|av c H2 (fun k16 H17=>M<|p (ar c)<|O c<|ah<|bw (bS c (ce c)<|ce c) ⟨(0,false),c,H17⟩) fun k16 H17=>an<|M<|p (ae oa c)<|be (bb (k:=0) aY c c c) c<|p (v_mul c c)<|p (bq c c)<|p (ae qk c)<|be (bb (k:=0) aY c c c) c<|p (v_mul c c)<|p (bq c c)<|p (ae dN c)<|be (bb (k:=0) aY c c c) c<|p (bq c c)<|p (dX ⟨_,Tryz.underlying3⟩ Tryz.underlying22 c)<|p (ar c)<|O c<|ah<|bw (bS c (ce c)<|ce c) ⟨((IntKind.u64.wrap (IntKind.i64.wrap ((IntKind.i64.wrap ((IntKind.i64.wrap (32768 + (IntKind.i64.wrap (256 * a0.fFrame)))) + (IntKind.i64.wrap (16 * a0.fSlot)))) + a0.fRights))),true),c,H17⟩
def fN (a0:al):Int × Bool:=(bif (al.eqb a0 (⟨0,0,0⟩:al)) then ((0,true)) else (bif (((((decide (a0.fFrame < 0)) || (decide (a0.fFrame ≥ 16))) || (decide (a0.fSlot < 0))) || (decide (a0.fSlot ≥ 8))) || (!(cg a0.fRights))) then ((0,false)) else (((IntKind.u64.wrap (IntKind.i64.wrap ((IntKind.i64.wrap ((IntKind.i64.wrap (32768 + (IntKind.i64.wrap (256 * a0.fFrame)))) + (IntKind.i64.wrap (16 * a0.fSlot)))) + a0.fRights))),true))))
theorem pr_pte_Put (a0:al) {K:(Int × Bool)→Hp→Prop} {h:Hp} (k:K (fN a0) h):sh_pte_Put a0 K h:=(kj (K:=K) (fun k=>k) (kj (K:=K) (fun k=>k) (fun k=>k))) k
theorem ct_pte_Put (a0:al) (h:Hp):Ct Tryz.prog n_pte_Put #[(.agg (al.C a0).toArray)] h fun v h'=>∃ r,v = bH r∧(r = fN a0∧h' = h):=sim_pte_Put a0 (pr_pte_Put a0 ⟨rfl,rfl⟩)
def sh_tlb_empty (K:am→Hp→Prop):Hp→Prop:=K (⟨(-1),0,0,0⟩:am)
theorem sim_tlb_empty {K:am→Hp→Prop} {h:Hp} (H:sh_tlb_empty K h):Ct Tryz.prog n_tlb_empty #[] h fun v h'=>∃ r,v = R_api_Line r∧K r h':=au [] Tryz.func146 c c c fun _=>M<|aa<|aN (l:=am.C (⟨0,0,0,0⟩:am)) kQ c c fun b0=>ad<|M<|p (bc c<|build_52_0 (-1))<|aa<|aO (k:=0) (vs:=am.C (⟨(-1),0,0,0⟩:am)) fw c c c c c c c<|ad<|ah<|bw (my c<|bB (k:=0) c gY c c) ⟨(⟨(-1),0,0,0⟩:am),c,H⟩
def dD:am:=((⟨(-1),0,0,0⟩:am))
theorem pr_tlb_empty {K:am→Hp→Prop} {h:Hp} (k:K (dD) h):sh_tlb_empty K h:=(fun k=>k) k
theorem xB (h:Hp):Ct Tryz.prog n_tlb_empty #[] h fun v h'=>∃ r,v = R_api_Line r∧(r = dD∧h' = h):=sim_tlb_empty (pr_tlb_empty ⟨rfl,rfl⟩)
def sh_pte_Lets (a0:Int) (a1:Int) (K:Bool→Hp→Prop):Hp→Prop:=br (a1 == 20) ( K (aT 1 a0)) ( br (a1 == 21) ( K (aT 2 a0)) ( br (a1 == 22) ( K (aT 3 a0)) ( br (a1 == 23) ( K (aT 3 a0)) ( K (aT 0 a0)))))
theorem sim_pte_Lets (a0:Int) (a1:Int) {K:Bool→Hp→Prop} {h:Hp} (H:sh_pte_Lets a0 a1 K h):Ct Tryz.prog n_pte_Lets #[(.int .i64 a0),(.int .i64 a1)] h fun v h'=>∃ r,v = az r∧K r h':=au [(.int .i64 a0),(.int .i64 a1)] Tryz.func152 c c c fun _=>M<|O c<|M<|O c<|ak<|M<|J c<|ad<|ay<|M<|p (bN c c)<|O c<|av c H (fun k1 H2=>aq<|O c<|M<|J c<|J c<|aa<|cF (vs:=[(.int .i64 1),(.int .i64 a0)]) (bt<|db 1 a0 _) mI c c<|O c<|ah<|Y ⟨aT 1 a0,c,H2⟩) fun k1 H2=>M<|p (bN c c)<|O c<|av c H2 (fun k3 H4=>aq<|O c<|M<|J c<|J c<|aa<|cF (vs:=[(.int .i64 2),(.int .i64 a0)]) (bt<|db 2 a0 _) mI c c<|O c<|ah<|Y ⟨aT 2 a0,c,H4⟩) fun k3 H4=>ak<|M<|p (bN c c)<|O c<|av c H4 (fun k5 H6=>an<|kM c k5<|aq<|O c<|M<|J c<|J c<|aa<|cF (vs:=[(.int .i64 3),(.int .i64 a0)]) (bt<|db 3 a0 _) mI c c<|O c<|ah<|Y ⟨aT 3 a0,c,H6⟩) fun k5 H6=>aq<|p (bN c c)<|O c<|av c H6 (fun k7 H8=>aq<|O c<|M<|J c<|J c<|aa<|cF (vs:=[(.int .i64 3),(.int .i64 a0)]) (bt<|db 3 a0 _) mI c c<|O c<|ah<|Y ⟨aT 3 a0,c,H8⟩) fun k7 H8=>an<|M<|J c<|J c<|aa<|cF (vs:=[(.int .i64 0),(.int .i64 a0)]) (bt<|db 0 a0 _) mI c c<|O c<|ah<|Y ⟨aT 0 a0,c,H8⟩
def du (a0:Int) (a1:Int):Bool:=(bif (a1 == 20) then ((aT 1 a0)) else (bif (a1 == 21) then ((aT 2 a0)) else (bif (a1 == 22) then ((aT 3 a0)) else (bif (a1 == 23) then ((aT 3 a0)) else ((aT 0 a0))))))
theorem pr_pte_Lets (a0:Int) (a1:Int) {K:Bool→Hp→Prop} {h:Hp} (k:K (du a0 a1) h):sh_pte_Lets a0 a1 K h:=(kj (K:=K) (fun k=>k) (kj (K:=K) (fun k=>k) (kj (K:=K) (fun k=>k) (kj (K:=K) (fun k=>k) (fun k=>k))))) k
theorem jR (a0:Int) (a1:Int) (h:Hp):Ct Tryz.prog n_pte_Lets #[(.int .i64 a0),(.int .i64 a1)] h fun v h'=>∃ r,v = az r∧(r = du a0 a1∧h' = h):=sim_pte_Lets a0 a1 (pr_pte_Lets a0 a1 ⟨rfl,rfl⟩)
def rP (a0:Int) (K:Bool→Hp→Prop):Hp→Prop:=K (a0 != a0)
theorem sim_cmp_isNaN_uint64 (a0:Int) {K:Bool→Hp→Prop} {h:Hp} (H:rP a0 K h):Ct Tryz.prog tw #[(.int .u64 a0)] h fun v h'=>∃ r,v = az r∧K r h':=au [(.int .u64 a0)] Tryz.func213 c c c fun _=>M<|O c<|M<|J c<|J c<|p (pt c c)<|O c<|ah<|Y ⟨(a0 != a0),c,H⟩
def dw (a0:Int):Bool:=((a0 != a0))
theorem pr_cmp_isNaN_uint64 (a0:Int) {K:Bool→Hp→Prop} {h:Hp} (k:K (dw a0) h):rP a0 K h:=(fun k=>k) k
theorem rS (a0:Int) (h:Hp):Ct Tryz.prog tw #[(.int .u64 a0)] h fun v h'=>∃ r,v = az r∧(r = dw a0∧h' = h):=sim_cmp_isNaN_uint64 a0 (pr_cmp_isNaN_uint64 a0 ⟨rfl,rfl⟩)
def td (a0:Int) (a1:Int) (K:Bool→Hp→Prop):Hp→Prop:=K (((dw a0) && (!(dw a1))) || (decide (a0 < a1)))
theorem sim_cmp_Less_uint64 (a0:Int) (a1:Int) {K:Bool→Hp→Prop} {h:Hp} (H:td a0 a1 K h):Ct Tryz.prog uG #[(.int .u64 a0),(.int .u64 a1)] h fun v h'=>∃ r,v = az r∧K r h':=au [(.int .u64 a0),(.int .u64 a1)] Tryz.func189 c c c fun _=>M<|O c<|M<|J c<|aa<|cF (vs:=[(.int .u64 a0)]) (bt<|rS a0 _) en_213 c c<|J c<|V c c (aw _) (fun g1=>wv<|ag c)<|cY (vs:=[(.int .u64 a1)]) c c c (aw _) (fun g2=>bt<|rS a1 _) en_213 (fun g2=>aP (aD c g2) bK) c<|V c c (aw _) (fun g3=>wv<|cr<|aD c g3)<|p (bU c c)<|J c<|V c c (aK _) (fun g4=>wv<|ag c)<|V c c (aK _) (fun g5=>wv<|ag c)<|V c c (aK _) (fun g6=>wv<|cu (aD c g6)<|aD c g6)<|p (dp c c)<|O c<|ah<|Y ⟨(((dw a0) && (!(dw a1))) || (decide (a0 < a1))),c,H⟩
def ib (a0:Int) (a1:Int):Bool:=((((dw a0) && (!(dw a1))) || (decide (a0 < a1))))
theorem pr_cmp_Less_uint64 (a0:Int) (a1:Int) {K:Bool→Hp→Prop} {h:Hp} (k:K (ib a0 a1) h):td a0 a1 K h:=(fun k=>k) k
theorem ct_cmp_Less_uint64 (a0:Int) (a1:Int) (h:Hp):Ct Tryz.prog uG #[(.int .u64 a0),(.int .u64 a1)] h fun v h'=>∃ r,v = az r∧(r = ib a0 a1∧h' = h):=sim_cmp_Less_uint64 a0 a1 (pr_cmp_Less_uint64 a0 a1 ⟨rfl,rfl⟩)
def oA (a0:Int) (K:Bool→Hp→Prop):Hp→Prop:=K (a0 != a0)
theorem vn (a0:Int) {K:Bool→Hp→Prop} {h:Hp} (H:oA a0 K h):Ct Tryz.prog pN #[(.int .u64 a0)] h fun v h'=>∃ r,v = az r∧K r h':=au [(.int .u64 a0)] Tryz.func190 c c c fun _=>M<|O c<|M<|J c<|J c<|p (pt c c)<|O c<|ah<|Y ⟨(a0 != a0),c,H⟩
def dE (a0:Int):Bool:=((a0 != a0))
theorem wV (a0:Int) {K:Bool→Hp→Prop} {h:Hp} (k:K (dE a0) h):oA a0 K h:=(fun k=>k) k
theorem pd (a0:Int) (h:Hp):Ct Tryz.prog pN #[(.int .u64 a0)] h fun v h'=>∃ r,v = az r∧(r = dE a0∧h' = h):=vn a0 (wV a0 ⟨rfl,rfl⟩)
def sh_plain_fails (a0:Int) (K:(ac × Bool)→Hp→Prop):Hp→Prop:=K ((⟨a0,0⟩:ac),true)
theorem sim_plain_fails (a0:Int) {K:(ac × Bool)→Hp→Prop} {h:Hp} (H:sh_plain_fails a0 K h):Ct Tryz.prog n_plain_fails #[(.int .i64 a0)] h fun v h'=>∃ r,v = bh r∧K r h':=au [(.int .i64 a0)] Tryz.func113 c c c fun _=>M<|aa<|aN (l:=ac.C (⟨0,0⟩:ac)) dc c c fun b2=>O c<|M<|J c<|p (bc c<|jn a0)<|aa<|aO (k:=0) (vs:=ac.C (⟨a0,0⟩:ac)) bP c c c c c c c<|O c<|ah<|bw (bS c (bB (k:=0) c cy c c)<|ce c) ⟨((⟨a0,0⟩:ac),true),c,H⟩
def aM (a0:Int):ac × Bool:=(((⟨a0,0⟩:ac),true))
theorem pr_plain_fails (a0:Int) {K:(ac × Bool)→Hp→Prop} {h:Hp} (k:K (aM a0) h):sh_plain_fails a0 K h:=(fun k=>k) k
theorem dJ (a0:Int) (h:Hp):Ct Tryz.prog n_plain_fails #[(.int .i64 a0)] h fun v h'=>∃ r,v = bh r∧(r = aM a0∧h' = h):=sim_plain_fails a0 (pr_plain_fails a0 ⟨rfl,rfl⟩)
def sh_pred_Holds (a0:Int) (a1:Int) (a2:Int) (K:Bool→Hp→Prop):Hp→Prop:=br (a0 == 1) ( K (a1 == a2)) ( br (a0 == 2) ( K (a1 != a2)) ( br (a0 == 3) ( K (decide (a1 < a2))) ( br (a0 == 4) ( K (decide (a1 > a2))) ( K false))))
theorem sim_pred_Holds (a0:Int) (a1:Int) (a2:Int) {K:Bool→Hp→Prop} {h:Hp} (H:sh_pred_Holds a0 a1 a2 K h):Ct Tryz.prog n_pred_Holds #[(.int .i64 a0),(.int .u64 a1),(.int .u64 a2)] h fun v h'=>∃ r,v = az r∧K r h':=au [(.int .i64 a0),(.int .u64 a1),(.int .u64 a2)] Tryz.func140 c c c fun _=>M<|O c<|ak<|M<|J c<|ad<|ay<|M<|p (bN c c)<|O c<|av c H (fun k1 H2=>M<|J c<|J c<|p (bN c c)<|O c<|ah<|Y ⟨(a1 == a2),c,H2⟩) fun k1 H2=>M<|p (bN c c)<|O c<|av c H2 (fun k3 H4=>M<|J c<|J c<|p (pt c c)<|O c<|ah<|Y ⟨(a1 != a2),c,H4⟩) fun k3 H4=>M<|p (bN c c)<|O c<|av c H4 (fun k5 H6=>M<|J c<|J c<|p (cu c c)<|O c<|ah<|Y ⟨decide (a1 < a2),c,H6⟩) fun k5 H6=>M<|p (bN c c)<|O c<|av c H6 (fun k7 H8=>M<|J c<|J c<|p (qB c c)<|O c<|ah<|Y ⟨decide (a1 > a2),c,H8⟩) fun k7 H8=>an<|M<|O c<|ah<|Y ⟨false,c,H8⟩
def mT (a0:Int) (a1:Int) (a2:Int):Bool:=(bif (a0 == 1) then ((a1 == a2)) else (bif (a0 == 2) then ((a1 != a2)) else (bif (a0 == 3) then ((decide (a1 < a2))) else (bif (a0 == 4) then ((decide (a1 > a2))) else (false)))))
theorem pr_pred_Holds (a0:Int) (a1:Int) (a2:Int) {K:Bool→Hp→Prop} {h:Hp} (k:K (mT a0 a1 a2) h):sh_pred_Holds a0 a1 a2 K h:=(kj (K:=K) (fun k=>k) (kj (K:=K) (fun k=>k) (kj (K:=K) (fun k=>k) (kj (K:=K) (fun k=>k) (fun k=>k))))) k
theorem vg (a0:Int) (a1:Int) (a2:Int) (h:Hp):Ct Tryz.prog n_pred_Holds #[(.int .i64 a0),(.int .u64 a1),(.int .u64 a2)] h fun v h'=>∃ r,v = az r∧(r = mT a0 a1 a2∧h' = h):=sim_pred_Holds a0 a1 a2 (pr_pred_Holds a0 a1 a2 ⟨rfl,rfl⟩)
def sh_hist_one (a0:aB) (a1:ax) (a2:Int) (K:Bool→Hp→Prop):Hp→Prop:=br (((((decide (a0.fCore < 0)) || (decide (a0.fCore ≥ a1.fCores))) || (decide (a0.fEnv < 0))) || (decide (a0.fEnv ≥ a1.fEnvs))) || (decide (a0.fBegin ≤ a2))) ( K false) ( br (a0.fEffect == 0) ( K (a0.fEnd == 0)) ( K ((decide (a0.fEffect ≥ a0.fBegin)) && ((a0.fEnd == 0) || (decide (a0.fEnd ≥ a0.fEffect))))))
theorem sim_hist_one (a0:aB) (a1:ax) (a2:Int) {K:Bool→Hp→Prop} {h:Hp} (H:sh_hist_one a0 a1 a2 K h):Ct Tryz.prog n_hist_one #[(.agg (aB.C a0).toArray),(.agg (ax.C a1).toArray),(.int .i64 a2)] h fun v h'=>∃ r,v = az r∧K r h':=au [(.agg (aB.C a0).toArray),(.agg (ax.C a1).toArray),(.int .i64 a2)] Tryz.func69 c c c fun _=>M<|aa<|cz (l:=aB.C a0) c c c fun b3=>aa<|cz (l:=ax.C a1) c c c fun b4=>O c<|ak<|ay<|M<|p (ae tD c)<|be (bb (k:=1) aY c c c) c<|p (cu c c)<|J c<|V c c (aK _) (fun g1=>wv<|ae tD c)<|V c c (aK _) (fun g2=>cv<|bb (k:=1) aY (aD c g2) c c)<|V c c (aK _) (fun g3=>wv<|ae mY c)<|V c c (aK _) (fun g4=>cv<|bb (k:=0) aY (aD c g4) c c)<|V c c (aK _) (fun g5=>wv<|jo (aD c g5)<|aD c g5)<|p (dp c c)<|J c<|V c c (aK _) (fun g6=>wv<|ae pb c)<|V c c (aK _) (fun g7=>cv<|bb (k:=1) aY (aD c g7) c c)<|V c c (aK _) (fun g8=>wv<|cu (aD c g8) c)<|p (dp c c)<|J c<|V c c (aK _) (fun g9=>wv<|ae pb c)<|V c c (aK _) (fun g10=>cv<|bb (k:=1) aY (aD c g10) c c)<|V c c (aK _) (fun g11=>wv<|ae jF c)<|V c c (aK _) (fun g12=>cv<|bb (k:=0) aY (aD c g12) c c)<|V c c (aK _) (fun g13=>wv<|jo (aD c g13)<|aD c g13)<|p (dp c c)<|J c<|V c c (aK _) (fun g14=>wv<|ae tC c)<|V c c (aK _) (fun g15=>cv<|bb (k:=1) aY (aD c g15) c c)<|V c c (aK _) (fun g16=>wv<|ag c)<|V c c (aK _) (fun g17=>wv<|v_le (aD c g17)<|aD c g17)<|p (dp c c)<|O c<|av c H (fun k18 H19=>M<|O c<|ah<|Y ⟨false,c,H19⟩) fun k18 H19=>M<|p (ae je c)<|be (bb (k:=1) aY c c c) c<|p (bN c c)<|O c<|av c H19 (fun k20 H21=>M<|p (ae oZ c)<|be (bb (k:=1) aY c c c) c<|p (bN c c)<|O c<|ah<|Y ⟨(a0.fEnd == 0),c,H21⟩) fun k20 H21=>an<|M<|p (ae je c)<|be (bb (k:=1) aY c c c) c<|p (ae tC c)<|be (bb (k:=1) aY c c c) c<|p (jo c c)<|J c<|V c c (aw _) (fun g22=>wv<|ae oZ c)<|V c c (aw _) (fun g23=>cv<|bb (k:=1) aY (aD c g23) c c)<|V c c (aw _) (fun g24=>wv<|bN (aD c g24) c)<|V c c (aw _) (fun g25=>wv<|ag<|aD c g25)<|V c c (dV _ _) (fun g26=>wv<|ae oZ c)<|V c c (dV _ _) (fun g27=>cv<|bb (k:=1) aY (aD c g27) c c)<|V c c (dV _ _) (fun g28=>wv<|ae je c)<|V c c (dV _ _) (fun g29=>cv<|bb (k:=1) aY (aD c g29) c c)<|V c c (dV _ _) (fun g30=>wv<|jo (aD c g30)<|aD c g30)<|V c c (aw _) (fun g31=>wv<|dp (aD c g31)<|aL c<|xp g31)<|p (bU c c)<|O c<|ah<|Y ⟨((decide (a0.fEffect ≥ a0.fBegin)) && ((a0.fEnd == 0) || (decide (a0.fEnd ≥ a0.fEffect)))),c,H21⟩
def fD (a0:aB) (a1:ax) (a2:Int):Bool:=(bif (((((decide (a0.fCore < 0)) || (decide (a0.fCore ≥ a1.fCores))) || (decide (a0.fEnv < 0))) || (decide (a0.fEnv ≥ a1.fEnvs))) || (decide (a0.fBegin ≤ a2))) then (false) else (bif (a0.fEffect == 0) then ((a0.fEnd == 0)) else (((decide (a0.fEffect ≥ a0.fBegin)) && ((a0.fEnd == 0) || (decide (a0.fEnd ≥ a0.fEffect)))))))
theorem pr_hist_one (a0:aB) (a1:ax) (a2:Int) {K:Bool→Hp→Prop} {h:Hp} (k:K (fD a0 a1 a2) h):sh_hist_one a0 a1 a2 K h:=(kj (K:=K) (fun k=>k) (kj (K:=K) (fun k=>k) (fun k=>k))) k
theorem ct_hist_one (a0:aB) (a1:ax) (a2:Int) (h:Hp):Ct Tryz.prog n_hist_one #[(.agg (aB.C a0).toArray),(.agg (ax.C a1).toArray),(.int .i64 a2)] h fun v h'=>∃ r,v = az r∧(r = fD a0 a1 a2∧h' = h):=sim_hist_one a0 a1 a2 (pr_hist_one a0 a1 a2 ⟨rfl,rfl⟩)
def vF (a0:aB) (K:Bool→Hp→Prop):Hp→Prop:=K (decide (a0.fEffect > 0))
theorem sim_hist_Order_c1 (a0:aB) {K:Bool→Hp→Prop} {h:Hp} (H:vF a0 K h):Ct Tryz.prog nh #[(.agg (aB.C a0).toArray)] h fun v h'=>∃ r,v = az r∧K r h':=au [(.agg (aB.C a0).toArray)] Tryz.func86 c c c fun _=>M<|aa<|cz (l:=aB.C a0) c c c fun b1=>O c<|M<|p (ae je c)<|be (bb (k:=0) aY c c c) c<|p (qB c c)<|O c<|ah<|Y ⟨decide (a0.fEffect > 0),c,H⟩
def vR (a0:aB):Bool:=((decide (a0.fEffect > 0)))
theorem pr_hist_Order_c1 (a0:aB) {K:Bool→Hp→Prop} {h:Hp} (k:K (vR a0) h):vF a0 K h:=(fun k=>k) k
theorem ct_hist_Order_c1 (a0:aB) (h:Hp):Ct Tryz.prog nh #[(.agg (aB.C a0).toArray)] h fun v h'=>∃ r,v = az r∧(r = vR a0∧h' = h):=sim_hist_Order_c1 a0 (pr_hist_Order_c1 a0 ⟨rfl,rfl⟩)
def vH (a0:Int) (K:Bool→Hp→Prop):Hp→Prop:=K (a0 != a0)
theorem sim_cmp_isNaN_int (a0:Int) {K:Bool→Hp→Prop} {h:Hp} (H:vH a0 K h):Ct Tryz.prog n_cmp_isNaN_int #[(.int .i64 a0)] h fun v h'=>∃ r,v = az r∧K r h':=au [(.int .i64 a0)] Tryz.func144 c c c fun _=>M<|O c<|M<|J c<|J c<|p (pt c c)<|O c<|ah<|Y ⟨(a0 != a0),c,H⟩
def eu (a0:Int):Bool:=((a0 != a0))
theorem pr_cmp_isNaN_int (a0:Int) {K:Bool→Hp→Prop} {h:Hp} (k:K (eu a0) h):vH a0 K h:=(fun k=>k) k
theorem wi (a0:Int) (h:Hp):Ct Tryz.prog n_cmp_isNaN_int #[(.int .i64 a0)] h fun v h'=>∃ r,v = az r∧(r = eu a0∧h' = h):=sim_cmp_isNaN_int a0 (pr_cmp_isNaN_int a0 ⟨rfl,rfl⟩)
def te (a0:Int) (a1:Int) (K:Int→Hp→Prop):Hp→Prop:=br (eu a0) ( br (eu a1) ( K 0) ( K (-1))) ( br (eu a1) ( K 1) ( br (decide (a0 < a1)) ( K (-1)) ( br (decide (a0 > a1)) ( K 1) ( K 0))))
theorem sim_cmp_Compare_int (a0:Int) (a1:Int) {K:Int→Hp→Prop} {h:Hp} (H:te a0 a1 K h):Ct Tryz.prog uH #[(.int .i64 a0),(.int .i64 a1)] h fun v h'=>∃ r,v = eB r∧K r h':=au [(.int .i64 a0),(.int .i64 a1)] Tryz.func89 c c c fun _=>M<|O c<|M<|J c<|aa<|cF (vs:=[(.int .i64 a0)]) (bt<|wi a0 _) en_144 c c<|O c<|M<|J c<|aa<|cF (vs:=[(.int .i64 a1)]) (bt<|wi a1 _) en_144 c c<|O c<|ak<|M<|J c<|ad<|av c H (fun k1 H2=>ak<|M<|J c<|ad<|av c H2 (fun k3 H4=>M<|O c<|ah<|Y ⟨0,c,H4⟩) fun k3 H4=>an<|M<|O c<|ah<|Y ⟨(-1),c,H4⟩) fun k1 H2=>an<|ak<|M<|J c<|ad<|av c H2 (fun k5 H6=>M<|O c<|ah<|Y ⟨1,c,H6⟩) fun k5 H6=>an<|ak<|M<|J c<|J c<|p (cu c c)<|ad<|av c H6 (fun k7 H8=>M<|O c<|ah<|Y ⟨(-1),c,H8⟩) fun k7 H8=>an<|ak<|M<|J c<|J c<|p (qB c c)<|ad<|av c H8 (fun k9 H10=>M<|O c<|ah<|Y ⟨1,c,H10⟩) fun k9 H10=>an<|M<|O c<|ah<|Y ⟨0,c,H10⟩
def fO (a0:Int) (a1:Int):Int:=(bif (eu a0) then (bif (eu a1) then (0) else ((-1))) else (bif (eu a1) then (1) else (bif (decide (a0 < a1)) then ((-1)) else (bif (decide (a0 > a1)) then (1) else (0)))))
theorem pr_cmp_Compare_int (a0:Int) (a1:Int) {K:Int→Hp→Prop} {h:Hp} (k:K (fO a0 a1) h):te a0 a1 K h:=(kj (K:=K) (kj (K:=K) (fun k=>k) (fun k=>k)) (kj (K:=K) (fun k=>k) (kj (K:=K) (fun k=>k) (kj (K:=K) (fun k=>k) (fun k=>k))))) k
theorem ct_cmp_Compare_int (a0:Int) (a1:Int) (h:Hp):Ct Tryz.prog uH #[(.int .i64 a0),(.int .i64 a1)] h fun v h'=>∃ r,v = eB r∧(r = fO a0 a1∧h' = h):=sim_cmp_Compare_int a0 a1 (pr_cmp_Compare_int a0 a1 ⟨rfl,rfl⟩)
def sh_judge_user (a0:aB) (K:Bool→Hp→Prop):Hp→Prop:=K (cM ((aC a0.fCall).1))
theorem sim_judge_user (a0:aB) {K:Bool→Hp→Prop} {h:Hp} (H:sh_judge_user a0 K h):Ct Tryz.prog n_judge_user #[(.agg (aB.C a0).toArray)] h fun v h'=>∃ r,v = az r∧K r h':=au [(.agg (aB.C a0).toArray)] Tryz.func131 c c c fun _=>M<|aa<|cz (l:=aB.C a0) c c c fun b1=>O c<|M<|p (ae mW c)<|be (bC (k:=0) fh c c c c) c<|aa<|cF (vs:=[(.agg (ai.C a0.fCall).toArray)]) (bt<|kh a0.fCall _) en_53 c c<|J c<|p (aj c c)<|p (aj c c)<|p (ar c)<|O c<|M<|J c<|aa<|cF (vs:=[(.int .i64 ((aC a0.fCall).1))]) (bt<|sx (aC a0.fCall).1 _) en_54 c c<|O c<|ah<|Y ⟨cM (aC a0.fCall).1,c,H⟩
def qr (a0:aB):Bool:=((cM ((aC a0.fCall).1)))
theorem pr_judge_user (a0:aB) {K:Bool→Hp→Prop} {h:Hp} (k:K (qr a0) h):sh_judge_user a0 K h:=(fun k=>k) k
theorem ct_judge_user (a0:aB) (h:Hp):Ct Tryz.prog n_judge_user #[(.agg (aB.C a0).toArray)] h fun v h'=>∃ r,v = az r∧(r = qr a0∧h' = h):=sim_judge_user a0 (pr_judge_user a0 ⟨rfl,rfl⟩)
def pH (a0:ax) (K:ax→Hp→Prop):Hp→Prop:=K (⟨(IntKind.i64.wrap (1 + ((IntKind.i64.wrap ((a0.fCores.tmod 4) + 4)).tmod 4))),(IntKind.i64.wrap (1 + ((IntKind.i64.wrap ((a0.fEnvs.tmod 3) + 3)).tmod 3))),(IntKind.i64.wrap (1 + ((IntKind.i64.wrap ((a0.fFrames.tmod 6) + 6)).tmod 6)))⟩:ax)
theorem wL (a0:ax) {K:ax→Hp→Prop} {h:Hp} (H:pH a0 K h):Ct Tryz.prog qT #[(.agg (ax.C a0).toArray)] h fun v h'=>∃ r,v = R_api_Size r∧K r h':=au [(.agg (ax.C a0).toArray)] Tryz.func27 c c c fun _=>M<|aa<|cz (l:=ax.C a0) c c c fun b1=>aa<|aN (l:=ax.C (⟨0,0,0⟩:ax)) zero_27 c c fun b2=>ad<|M<|p (ae mY c)<|be (bb (k:=1) aY c c c) c<|p (v_rem c c (by decide))<|p (bq c c)<|p (v_rem c c (by decide))<|p (bq c c)<|p (ae jF c)<|be (bb (k:=1) aY c c c) c<|p (v_rem c c (by decide))<|p (bq c c)<|p (v_rem c c (by decide))<|p (bq c c)<|p (ae tF c)<|be (bb (k:=1) aY c c c) c<|p (v_rem c c (by decide))<|p (bq c c)<|p (v_rem c c (by decide))<|p (bq c c)<|p (bc c<|tO (IntKind.i64.wrap (1 + ((IntKind.i64.wrap ((a0.fCores.tmod 4) + 4)).tmod 4))) (IntKind.i64.wrap (1 + ((IntKind.i64.wrap ((a0.fEnvs.tmod 3) + 3)).tmod 3)))<|IntKind.i64.wrap (1 + ((IntKind.i64.wrap ((a0.fFrames.tmod 6) + 6)).tmod 6)))<|aa<|aO (k:=0) (vs:=ax.C (⟨(IntKind.i64.wrap (1 + ((IntKind.i64.wrap ((a0.fCores.tmod 4) + 4)).tmod 4))),(IntKind.i64.wrap (1 + ((IntKind.i64.wrap ((a0.fEnvs.tmod 3) + 3)).tmod 3))),(IntKind.i64.wrap (1 + ((IntKind.i64.wrap ((a0.fFrames.tmod 6) + 6)).tmod 6)))⟩:ax)) inf_27 c c c c c c c<|ad<|ah<|bw (my c<|bB (k:=0) c ph c c) ⟨(⟨(IntKind.i64.wrap (1 + ((IntKind.i64.wrap ((a0.fCores.tmod 4) + 4)).tmod 4))),(IntKind.i64.wrap (1 + ((IntKind.i64.wrap ((a0.fEnvs.tmod 3) + 3)).tmod 3))),(IntKind.i64.wrap (1 + ((IntKind.i64.wrap ((a0.fFrames.tmod 6) + 6)).tmod 6)))⟩:ax),c,H⟩
def bT (a0:ax):ax:=((⟨(IntKind.i64.wrap (1 + ((IntKind.i64.wrap ((a0.fCores.tmod 4) + 4)).tmod 4))),(IntKind.i64.wrap (1 + ((IntKind.i64.wrap ((a0.fEnvs.tmod 3) + 3)).tmod 3))),(IntKind.i64.wrap (1 + ((IntKind.i64.wrap ((a0.fFrames.tmod 6) + 6)).tmod 6)))⟩:ax))
theorem pr_messuagelaw16_Size (a0:ax) {K:ax→Hp→Prop} {h:Hp} (k:K (bT a0) h):pH a0 K h:=(fun k=>k) k
theorem ct_messuagelaw16_Size (a0:ax) (h:Hp):Ct Tryz.prog qT #[(.agg (ax.C a0).toArray)] h fun v h'=>∃ r,v = R_api_Size r∧(r = bT a0∧h' = h):=wL a0 (pr_messuagelaw16_Size a0 ⟨rfl,rfl⟩)
def sh_hist_Done_c1 (a0:aB) (K:Bool→Hp→Prop):Hp→Prop:=K (a0.fEnd != 0)
theorem sim_hist_Done_c1 (a0:aB) {K:Bool→Hp→Prop} {h:Hp} (H:sh_hist_Done_c1 a0 K h):Ct Tryz.prog oU #[(.agg (aB.C a0).toArray)] h fun v h'=>∃ r,v = az r∧K r h':=au [(.agg (aB.C a0).toArray)] Tryz.func68 c c c fun _=>M<|aa<|cz (l:=aB.C a0) c c c fun b1=>O c<|M<|p (ae oZ c)<|be (bb (k:=0) aY c c c) c<|p (pt c c)<|O c<|ah<|Y ⟨(a0.fEnd != 0),c,H⟩
def pf_hist_Done_c1 (a0:aB):Bool:=((a0.fEnd != 0))
theorem pr_hist_Done_c1 (a0:aB) {K:Bool→Hp→Prop} {h:Hp} (k:K (pf_hist_Done_c1 a0) h):sh_hist_Done_c1 a0 K h:=(fun k=>k) k
theorem ct_hist_Done_c1 (a0:aB) (h:Hp):Ct Tryz.prog oU #[(.agg (aB.C a0).toArray)] h fun v h'=>∃ r,v = az r∧(r = pf_hist_Done_c1 a0∧h' = h):=sim_hist_Done_c1 a0 (pr_hist_Done_c1 a0 ⟨rfl,rfl⟩)
end Go.Proofs.YtmggcfijlpldpaaGreatDoor
