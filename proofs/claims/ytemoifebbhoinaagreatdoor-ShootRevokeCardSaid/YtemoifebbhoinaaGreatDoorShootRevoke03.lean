/- Part of the proof of: The law ShootRevoke returns true for every input, and leaves its arguments as they were. -/
import Derived.Test.YtemoifebbhoinaaGreatDoorShootRevoke02
set_option linter.all false
set_option maxRecDepth 20000
namespace Go.Proofs.YtemoifebbhoinaaGreatDoor
open Go Mb
set_option linter.unusedVariables false
structure ah where
  e0:Int
  e1:Int
  e2:Int
  e3:Int
  e4:Int
def ah.C (x:ah):List Value:=[.int .u64 x.e0,.int .u64 x.e1,.int .u64 x.e2,.int .u64 x.e3,.int .u64 x.e4]
structure ab where
  fErr:Int
  fVal:Int
def ab.C (x:ab):List Value:=[.int .i64 x.fErr,.int .u64 x.fVal]
structure an where
  fEnv:Int
  fPage:Int
  fFrame:Int
  fRights:Int
def an.C (x:an):List Value:=[.int .i64 x.fEnv,.int .i64 x.fPage,.int .i64 x.fFrame,.int .i64 x.fRights]
structure aE where
  fCore:Int
  fEnv:Int
  fCall:ah
  fBegin:Int
  fEffect:Int
  fEnd:Int
  fAnswer:ab
  fLine:an
def aE.C (x:aE):List Value:=[.int .i64 x.fCore,.int .i64 x.fEnv,.int .u64 x.fCall.e0,.int .u64 x.fCall.e1,.int .u64 x.fCall.e2,.int .u64 x.fCall.e3,.int .u64 x.fCall.e4,.int .i64 x.fBegin,.int .i64 x.fEffect,.int .i64 x.fEnd,.int .i64 x.fAnswer.fErr,.int .u64 x.fAnswer.fVal,.int .i64 x.fLine.fEnv,.int .i64 x.fLine.fPage,.int .i64 x.fLine.fFrame,.int .i64 x.fLine.fRights]
structure lP where
  fat:Int
  fenv:Int
  fc:ah
  ftold:Bool
  fepoch:Int
def lP.C (x:lP):List Value:=[.int .i64 x.fat,.int .i64 x.fenv,.int .u64 x.fc.e0,.int .u64 x.fc.e1,.int .u64 x.fc.e2,.int .u64 x.fc.e3,.int .u64 x.fc.e4,.bool x.ftold,.int .u64 x.fepoch]
structure am where
  fFrame:Int
  fSlot:Int
  fRights:Int
def am.C (x:am):List Value:=[.int .i64 x.fFrame,.int .i64 x.fSlot,.int .i64 x.fRights]
structure ax where
  fFrame:Int
  fRights:Int
  fEnv:Int
  fSlot:Int
def ax.C (x:ax):List Value:=[.int .i64 x.fFrame,.int .i64 x.fRights,.int .i64 x.fEnv,.int .i64 x.fSlot]
structure ck where
  fl:an
  fwhen:Int
def ck.C (x:ck):List Value:=[.int .i64 x.fl.fEnv,.int .i64 x.fl.fPage,.int .i64 x.fl.fFrame,.int .i64 x.fl.fRights,.int .i64 x.fwhen]
structure jf where
  e0:ck
  e1:ck
def jf.C (x:jf):List Value:=[.int .i64 x.e0.fl.fEnv,.int .i64 x.e0.fl.fPage,.int .i64 x.e0.fl.fFrame,.int .i64 x.e0.fl.fRights,.int .i64 x.e0.fwhen,.int .i64 x.e1.fl.fEnv,.int .i64 x.e1.fl.fPage,.int .i64 x.e1.fl.fFrame,.int .i64 x.e1.fl.fRights,.int .i64 x.e1.fwhen]
structure aF where
  fEnv:Int
  fSlot:Int
def aF.C (x:aF):List Value:=[.int .i64 x.fEnv,.int .i64 x.fSlot]
structure aB where
  fCores:Int
  fEnvs:Int
  fFrames:Int
def aB.C (x:aB):List Value:=[.int .i64 x.fCores,.int .i64 x.fEnvs,.int .i64 x.fFrames]
structure sD where
  fl:Sl
def sD.C (x:sD):List Value:=[sv x.fl]
structure nZ where
  frefs:Sl
def nZ.C (x:nZ):List Value:=[sv x.frefs]
structure oe where
  fl:Sl
def oe.C (x:oe):List Value:=[sv x.fl]
structure gq where
  fs:aB
  fm:Ptr
  ftables:Sl
  fpool:Ptr
  fcaps:Ptr
def gq.C (x:gq):List Value:=[.int .i64 x.fs.fCores,.int .i64 x.fs.fEnvs,.int .i64 x.fs.fFrames,pv x.fm,sv x.ftables,pv x.fpool,pv x.fcaps]
structure kK where
  fes:Sl
  fs:aB
  fk:Ptr
def kK.C (x:kK):List Value:=[sv x.fes,.int .i64 x.fs.fCores,.int .i64 x.fs.fEnvs,.int .i64 x.fs.fFrames,pv x.fk]
structure oa where
  fl:Sl
def oa.C (x:oa):List Value:=[sv x.fl]
structure jL where
  fowner:Sl
  fheard:Sl
def jL.C (x:jL):List Value:=[sv x.fowner,sv x.fheard]
structure fI where
  fp:Ptr
  fenvs:Int
  ftlbs:Sl
  fboxes:Ptr
  fepochs:Ptr
  fcalls:Sl
  fevents:Sl
  fnow:Int
def fI.C (x:fI):List Value:=[pv x.fp,.int .i64 x.fenvs,sv x.ftlbs,pv x.fboxes,pv x.fepochs,sv x.fcalls,sv x.fevents,.int .i64 x.fnow]
structure dR where
  fKind:Int
  fCore:Int
  fEnv:Int
  fCall:ah
  fSet:Int
  fWay:Int
def dR.C (x:dR):List Value:=[.int .i64 x.fKind,.int .i64 x.fCore,.int .i64 x.fEnv,.int .u64 x.fCall.e0,.int .u64 x.fCall.e1,.int .u64 x.fCall.e2,.int .u64 x.fCall.e3,.int .u64 x.fCall.e4,.int .i64 x.fSet,.int .i64 x.fWay]
structure bX where
  fCode:Int
  fEnv:Int
  fCall:ah
  fErr:Value
def bX.C (x:bX):List Value:=[.int .i64 x.fCode,.int .i64 x.fEnv,.int .u64 x.fCall.e0,.int .u64 x.fCall.e1,.int .u64 x.fCall.e2,.int .u64 x.fCall.e3,.int .u64 x.fCall.e4,x.fErr]
structure aK where
  ftyp_:Ptr
  fptr:Ptr
  fflag:Int
def aK.C (x:aK):List Value:=[pv x.ftyp_,pv x.fptr,.int .u64 x.fflag]
structure od where
  fv:Int
  fn:Int
def od.C (x:od):List Value:=[.int .u64 x.fv,.int .i64 x.fn]
structure kJ where
  fdrawn:Ptr
  fpassed:Ptr
def kJ.C (x:kJ):List Value:=[pv x.fdrawn,pv x.fpassed]
structure ra where
  fIs:Bool
  fFrame:Int
  fRights:Int
  fEnv:Int
  fSlot:Int
def ra.C (x:ra):List Value:=[.bool x.fIs,.int .i64 x.fFrame,.int .i64 x.fRights,.int .i64 x.fEnv,.int .i64 x.fSlot]
structure iy where
  fEnv:Int
  fSlot:Int
def iy.C (x:iy):List Value:=[.int .i64 x.fEnv,.int .i64 x.fSlot]
def eA (r:Sl):Value:=(sv r)
abbrev eO:Nat:=42
abbrev eW:Nat:=55
theorem vY:Fld Tryz.prog 109 6 6:=bZ (m:=1) Tryz.underlying109 rfl rfl (by kernel_rfl) (by decide)
theorem en_55:aM Tryz.prog 55:=⟨_,Tryz.func55,by decide,rfl⟩
theorem sc_42:Sc Tryz.prog 42:=⟨⟨_,Tryz.underlying42,rfl⟩,bG (by kernel_rfl)⟩
abbrev fU:Nat:=20
def aC (r:Bool):Value:=(.bool r)
theorem qi:Fld Tryz.prog 109 5 5:=bZ (m:=1) Tryz.underlying109 rfl rfl (by kernel_rfl) (by decide)
theorem sc_107:Sc Tryz.prog 107:=⟨⟨_,Tryz.underlying107,rfl⟩,bG (by kernel_rfl)⟩
abbrev jC:Nat:=62
theorem slc_107:Slc Tryz.prog 107 118 1:=⟨Tryz.underlying107,bG (by kernel_rfl)⟩
theorem sc_118:Sc Tryz.prog 118:=⟨⟨_,Tryz.underlying118,rfl⟩,bG (by kernel_rfl)⟩
theorem en_62:aM Tryz.prog 62:=⟨_,Tryz.func62,by decide,rfl⟩
abbrev fV:Nat:=31
theorem fld_109_1:Fld Tryz.prog 109 1 1:=bZ (m:=1) Tryz.underlying109 rfl rfl (by kernel_rfl) (by decide)
theorem mm:Fld Tryz.prog 109 7 7:=bZ (m:=1) Tryz.underlying109 rfl rfl (by kernel_rfl) (by decide)
theorem cx:Tryz.prog.follows .mixedOrders = true:=by kernel_rfl
theorem eT:Ag Tryz.prog 34 5:=⟨⟨_,Tryz.underlying34,rfl⟩,bG (by kernel_rfl)⟩
theorem build_56_0_1_2_3 (y0:Int) (y1:Int) (y2:ah) (y3:Int):∀ w,(Instr.build 56 #[(0,(.int .i64 y0)),(1,(.int .i64 y1)),(2,(.agg (ah.C y2).toArray)),(3,(.int .i64 y3))]).run Tryz.prog w = .ok (.agg (aE.C (⟨y0,y1,y2,y3,0,0,(⟨0,0⟩:ab),(⟨0,0,0,0⟩:an)⟩:aE)).toArray) w:=fun _=>by kernel_rfl
theorem build_120_0_1_2 (y0:Int) (y1:Int) (y2:ah):∀ w,(Instr.build 120 #[(0,(.int .i64 y0)),(1,(.int .i64 y1)),(2,(.agg (ah.C y2).toArray))]).run Tryz.prog w = .ok (.agg (lP.C (⟨y0,y1,y2,false,0⟩:lP)).toArray) w:=fun _=>by kernel_rfl
theorem inf_118:∃ i,Tryz.prog.info? 118 = some i∧i.size = 1:=bG (by kernel_rfl)
abbrev cU:Nat:=120
theorem inf_42:∃ i,Tryz.prog.info? 42 = some i∧i.size = 1:=bG (by kernel_rfl)
theorem bb:Sc Tryz.prog 3:=⟨⟨_,Tryz.underlying3,rfl⟩,bG (by kernel_rfl)⟩
theorem qU:∃ i,Tryz.prog.info? 3 = some i∧i.size = 1:=bG (by kernel_rfl)
theorem en_31:aM Tryz.prog 31:=⟨_,Tryz.func31,by decide,rfl⟩
abbrev oP:Nat:=27
def bL (r:Int × Bool):Value:=.tuple #[(.int .i64 r.1),(.bool r.2)]
theorem de:Arr Tryz.prog 34 5 22 1:=⟨Tryz.underlying34,bG (by kernel_rfl)⟩
theorem cz:Sc Tryz.prog 22:=⟨⟨_,Tryz.underlying22,rfl⟩,bG (by kernel_rfl)⟩
abbrev n_word_Kind:Nat:=63
abbrev n_word_User:Nat:=64
def iv (r:Ptr):Value:=(pv r)
abbrev kC:Nat:=214
abbrev lw:Nat:=107
def cu (r:Sl):Value:=(sv r)
abbrev dI:Nat:=39
abbrev sc:Nat:=153
def ah.get (x:ah) (i:Int):Int:=match i.toNat with | 0=>x.e0 | 1=>x.e1 | 2=>x.e2 | 3=>x.e3 | 4=>x.e4 | _=>x.e4
theorem at_34 (x:ah) (i:Int) (h:0 ≤ i∧i < 5):(ah.C x)[0 + i.toNat * 1]? = some (.int .u64 (ah.get x i)):=by
  obtain ⟨n,rfl⟩:=Int.eq_ofNat_of_zero_le h.1
  have h2:n < 5:=by omega
  rcases n with _ | (_ | (_ | (_ | (_ | _)))) <;> first | rfl | omega
abbrev nk:Nat:=160
abbrev n_word_Rights:Nat:=193
theorem en_160:aM Tryz.prog 160:=⟨_,Tryz.func160,by decide,rfl⟩
theorem en_193:aM Tryz.prog 193:=⟨_,Tryz.func193,by decide,rfl⟩
abbrev n_word_fits:Nat:=154
def bh (r:Int):Value:=(.int .i64 r)
theorem iC:Slc Tryz.prog 39 3 1:=⟨Tryz.underlying39,bG (by kernel_rfl)⟩
theorem en_154:aM Tryz.prog 154:=⟨_,Tryz.func154,by decide,rfl⟩
theorem en_153:aM Tryz.prog 153:=⟨_,Tryz.func153,by decide,rfl⟩
theorem en_63:aM Tryz.prog 63:=⟨_,Tryz.func63,by decide,rfl⟩
abbrev gX:Nat:=110
theorem vX:Fld Tryz.prog 157 0 0:=bZ (m:=3) Tryz.underlying157 rfl rfl (by kernel_rfl) (by decide)
theorem mT:Fld Tryz.prog 25 1 1:=bZ (m:=1) Tryz.underlying25 rfl rfl (by kernel_rfl) (by decide)
abbrev kh:Nat:=122
abbrev n_table_is:Nat:=156
def cJ (r:am × Bool):Value:=.tuple #[(.agg (am.C r.1).toArray),(.bool r.2)]
theorem ga:∃ i,Tryz.prog.info? 79 = some i∧i.zero = some (.agg (am.C (⟨0,0,0⟩:am)).toArray):=jV (by kernel_rfl)
theorem mU  : ∀ w,(Instr.build 79 #[]).run Tryz.prog w = .ok (.agg (am.C (⟨0,0,0⟩:am)).toArray) w:=fun _=>by kernel_rfl
theorem fH:Ag Tryz.prog 79 3:=⟨⟨_,Tryz.underlying79,rfl⟩,bG (by kernel_rfl)⟩
theorem dQ:∃ i,Tryz.prog.info? 79 = some i∧i.size = 3:=bG (by kernel_rfl)
theorem kF:Fld Tryz.prog 214 0 0:=bZ (m:=24) Tryz.underlying214 rfl rfl (by kernel_rfl) (by decide)
theorem xx:Arr Tryz.prog 80 8 79 3:=⟨Tryz.underlying80,bG (by kernel_rfl)⟩
theorem eL:Fld Tryz.prog 79 2 2:=bZ (m:=1) Tryz.underlying79 rfl rfl (by kernel_rfl) (by decide)
theorem en_156:aM Tryz.prog 156:=⟨_,Tryz.func156,by decide,rfl⟩
abbrev eZ:Nat:=135
theorem fh:Fld Tryz.prog 157 2 4:=bZ (m:=1) Tryz.underlying157 rfl rfl (by kernel_rfl) (by decide)
theorem mW:Slc Tryz.prog 153 161 1:=⟨Tryz.underlying153,bG (by kernel_rfl)⟩
theorem en_135:aM Tryz.prog 135:=⟨_,Tryz.func135,by decide,rfl⟩
theorem rf:Sc Tryz.prog 161:=⟨⟨_,Tryz.underlying161,rfl⟩,bG (by kernel_rfl)⟩
theorem mw:Sc Tryz.prog 153:=⟨⟨_,Tryz.underlying153,rfl⟩,bG (by kernel_rfl)⟩
theorem en_122:aM Tryz.prog 122:=⟨_,Tryz.func122,by decide,rfl⟩
abbrev fS:Nat:=89
theorem ib:Fld Tryz.prog 208 0 0:=bZ (m:=1) Tryz.underlying208 rfl rfl (by kernel_rfl) (by decide)
theorem pW:Sc Tryz.prog 206:=⟨⟨_,Tryz.underlying206,rfl⟩,bG (by kernel_rfl)⟩
abbrev io:Nat:=151
def cr (r:ax × Bool):Value:=.tuple #[(.agg (ax.C r.1).toArray),(.bool r.2)]
theorem gt:∃ i,Tryz.prog.info? 36 = some i∧i.zero = some (.agg (ax.C (⟨0,0,0,0⟩:ax)).toArray):=jV (by kernel_rfl)
theorem build_36  : ∀ w,(Instr.build 36 #[]).run Tryz.prog w = .ok (.agg (ax.C (⟨0,0,0,0⟩:ax)).toArray) w:=fun _=>by kernel_rfl
theorem wi:Ag Tryz.prog 36 4:=⟨⟨_,Tryz.underlying36,rfl⟩,bG (by kernel_rfl)⟩
theorem fM:∃ i,Tryz.prog.info? 36 = some i∧i.size = 4:=bG (by kernel_rfl)
theorem oy:Slc Tryz.prog 206 205 32:=⟨Tryz.underlying206,bG (by kernel_rfl)⟩
theorem qw:Arr Tryz.prog 205 8 36 4:=⟨Tryz.underlying205,bG (by kernel_rfl)⟩
theorem gP:Fld Tryz.prog 36 1 1:=bZ (m:=1) Tryz.underlying36 rfl rfl (by kernel_rfl) (by decide)
theorem en_151:aM Tryz.prog 151:=⟨_,Tryz.func151,by decide,rfl⟩
abbrev dZ:Nat:=102
theorem fD:Fld Tryz.prog 157 4 6:=bZ (m:=1) Tryz.underlying157 rfl rfl (by kernel_rfl) (by decide)
theorem tA:aM Tryz.prog 102:=⟨_,Tryz.func102,by decide,rfl⟩
theorem ij:Sc Tryz.prog 155:=⟨⟨_,Tryz.underlying155,rfl⟩,bG (by kernel_rfl)⟩
abbrev fT:Nat:=53
abbrev n_pte_May:Nat:=166
theorem en_166:aM Tryz.prog 166:=⟨_,Tryz.func166,by decide,rfl⟩
abbrev n_pte_Within:Nat:=116
theorem fj:Fld Tryz.prog 120 2 2:=bZ (m:=5) Tryz.underlying120 rfl rfl (by kernel_rfl) (by decide)
theorem kG:Fld Tryz.prog 109 0 0:=bZ (m:=1) Tryz.underlying109 rfl rfl (by kernel_rfl) (by decide)
theorem qY:Fld Tryz.prog 36 2 2:=bZ (m:=1) Tryz.underlying36 rfl rfl (by kernel_rfl) (by decide)
theorem fld_36_3:Fld Tryz.prog 36 3 3:=bZ (m:=1) Tryz.underlying36 rfl rfl (by kernel_rfl) (by decide)
theorem en_53:aM Tryz.prog 53:=⟨_,Tryz.func53,by decide,rfl⟩
theorem nj:Sc Tryz.prog 103:=⟨⟨_,Tryz.underlying103,rfl⟩,bG (by kernel_rfl)⟩
abbrev fP:Nat:=36
theorem sC:Fld Tryz.prog 120 1 1:=bZ (m:=1) Tryz.underlying120 rfl rfl (by kernel_rfl) (by decide)
abbrev pZ:Nat:=165
def wj (r:am):Value:=(.agg (am.C r).toArray)
theorem tn:Fld Tryz.prog 79 1 1:=bZ (m:=1) Tryz.underlying79 rfl rfl (by kernel_rfl) (by decide)
theorem mC:aM Tryz.prog 116:=⟨_,Tryz.func116,by decide,rfl⟩
theorem en_165:aM Tryz.prog 165:=⟨_,Tryz.func165,by decide,rfl⟩
abbrev mc:Nat:=115
theorem en_115:aM Tryz.prog 115:=⟨_,Tryz.func115,by decide,rfl⟩
theorem fld_120_3:Fld Tryz.prog 120 3 7:=bZ (m:=1) Tryz.underlying120 rfl rfl (by kernel_rfl) (by decide)
theorem sc_4:Sc Tryz.prog 4:=⟨⟨_,Tryz.underlying4,rfl⟩,bG (by kernel_rfl)⟩
theorem en_89:aM Tryz.prog 89:=⟨_,Tryz.func89,by decide,rfl⟩
abbrev mb:Nat:=111
def bK (r:Int × Bool):Value:=.tuple #[(.int .u64 r.1),(.bool r.2)]
def am.eqb (x y:am):Bool:=((x.fFrame == y.fFrame) && ((x.fSlot == y.fSlot) && ((x.fRights == y.fRights) && true)))
theorem eqr_79 (n:Nat) (x y:am):EqR Tryz.prog (n + 2) 79 (.agg (am.C x).toArray) (.agg (am.C y).toArray) (am.eqb x y):=xv Tryz.underlying79 (by kernel_rfl) (lK (by decide) (hY bb rfl) (hY bb rfl) (jt (n:=n + 0) Tryz.underlying3) (lK (by decide) (hY bb rfl) (hY bb rfl) (jt (n:=n + 0) Tryz.underlying3) (lK (by decide) (hY bb rfl) (hY bb rfl) (jt (n:=n + 0) Tryz.underlying3) eqf_nil)))
theorem eqg_79:Tryz.prog.eqGuardType Tryz.prog.depth 79 = false:=by kernel_rfl
theorem qV:Fld Tryz.prog 79 0 0:=bZ (m:=1) Tryz.underlying79 rfl rfl (by kernel_rfl) (by decide)
abbrev n_pte_Put:Nat:=155
theorem en_155:aM Tryz.prog 155:=⟨_,Tryz.func155,by decide,rfl⟩
abbrev dY:Nat:=112
def R_api_Line (r:an):Value:=(.agg (an.C r).toArray)
theorem kV:∃ i,Tryz.prog.info? 54 = some i∧i.zero = some (.agg (an.C (⟨0,0,0,0⟩:an)).toArray):=jV (by kernel_rfl)
theorem build_54_0 (y0:Int):∀ w,(Instr.build 54 #[(0,(.int .i64 y0))]).run Tryz.prog w = .ok (.agg (an.C (⟨y0,0,0,0⟩:an)).toArray) w:=fun _=>by kernel_rfl
theorem ia:Ag Tryz.prog 54 4:=⟨⟨_,Tryz.underlying54,rfl⟩,bG (by kernel_rfl)⟩
theorem fL:∃ i,Tryz.prog.info? 54 = some i∧i.size = 4:=bG (by kernel_rfl)
abbrev n_tlb_empty:Nat:=152
def jU (r:Ptr):Value:=(pv r)
theorem fld_173_0:Fld Tryz.prog 173 0 0:=bZ (m:=40) Tryz.underlying173 rfl rfl (by kernel_rfl) (by decide)
theorem arr_171:Arr Tryz.prog 171 4 170 10:=⟨Tryz.underlying171,bG (by kernel_rfl)⟩
theorem arr_170:Arr Tryz.prog 170 2 169 5:=⟨Tryz.underlying170,bG (by kernel_rfl)⟩
theorem qh:Fld Tryz.prog 169 0 0:=bZ (m:=4) Tryz.underlying169 rfl rfl (by kernel_rfl) (by decide)
theorem kB:Fld Tryz.prog 54 0 0:=bZ (m:=1) Tryz.underlying54 rfl rfl (by kernel_rfl) (by decide)
theorem mS:Fld Tryz.prog 54 1 1:=bZ (m:=1) Tryz.underlying54 rfl rfl (by kernel_rfl) (by decide)
abbrev oL:Nat:=167
theorem en_152:aM Tryz.prog 152:=⟨_,Tryz.func152,by decide,rfl⟩
theorem en_167:aM Tryz.prog 167:=⟨_,Tryz.func167,by decide,rfl⟩
abbrev mY:Nat:=117
def fJ (r:an × Bool):Value:=.tuple #[(.agg (an.C r.1).toArray),(.bool r.2)]
theorem lN  : ∀ w,(Instr.build 54 #[]).run Tryz.prog w = .ok (.agg (an.C (⟨0,0,0,0⟩:an)).toArray) w:=fun _=>by kernel_rfl
abbrev oM:Nat:=157
abbrev n_pte_Lets:Nat:=158
theorem fld_169_1:Fld Tryz.prog 169 1 4:=bZ (m:=1) Tryz.underlying169 rfl rfl (by kernel_rfl) (by decide)
abbrev td:Nat:=194
theorem lJ:Fld Tryz.prog 54 2 2:=bZ (m:=1) Tryz.underlying54 rfl rfl (by kernel_rfl) (by decide)
theorem qX:Fld Tryz.prog 54 3 3:=bZ (m:=1) Tryz.underlying54 rfl rfl (by kernel_rfl) (by decide)
theorem fld_173_1:Fld Tryz.prog 173 1 40:=bZ (m:=1) Tryz.underlying173 rfl rfl (by kernel_rfl) (by decide)
theorem build_169_0_1 (y0:an) (y1:Int):∀ w,(Instr.build 169 #[(0,(.agg (an.C y0).toArray)),(1,(.int .i64 y1))]).run Tryz.prog w = .ok (.agg (ck.C (⟨y0,y1⟩:ck)).toArray) w:=fun _=>by kernel_rfl
theorem inf_169:∃ i,Tryz.prog.info? 169 = some i∧i.size = 5:=bG (by kernel_rfl)
theorem en_194:aM Tryz.prog 194:=⟨_,Tryz.func194,by decide,rfl⟩
abbrev oN:Nat:=159
theorem en_117:aM Tryz.prog 117:=⟨_,Tryz.func117,by decide,rfl⟩
theorem we (y0:Int) (y1:Int) (y2:Int) (y3:Int):∀ w,(Instr.build 54 #[(0,(.int .i64 y0)),(1,(.int .i64 y1)),(2,(.int .i64 y2)),(3,(.int .i64 y3))]).run Tryz.prog w = .ok (.agg (an.C (⟨y0,y1,y2,y3⟩:an)).toArray) w:=fun _=>by kernel_rfl
theorem en_159:aM Tryz.prog 159:=⟨_,Tryz.func159,by decide,rfl⟩
theorem en_158:aM Tryz.prog 158:=⟨_,Tryz.func158,by decide,rfl⟩
theorem en_157:aM Tryz.prog 157:=⟨_,Tryz.func157,by decide,rfl⟩
abbrev us:Nat:=113
def eB (r:Int):Value:=(.int .i64 r)
theorem sB:Fld Tryz.prog 212 0 0:=bZ (m:=1) Tryz.underlying212 rfl rfl (by kernel_rfl) (by decide)
theorem lm:Sc Tryz.prog 163:=⟨⟨_,Tryz.underlying163,rfl⟩,bG (by kernel_rfl)⟩
abbrev vN:Nat:=204
def sE (r:Ptr):Value:=(pv r)
theorem lS:Slc Tryz.prog 163 93 1:=⟨Tryz.underlying163,bG (by kernel_rfl)⟩
theorem ww:Slc Tryz.prog 93 22 1:=⟨Tryz.underlying93,bG (by kernel_rfl)⟩
theorem sc_93:Sc Tryz.prog 93:=⟨⟨_,Tryz.underlying93,rfl⟩,bG (by kernel_rfl)⟩
theorem en_204:aM Tryz.prog 204:=⟨_,Tryz.func204,by decide,rfl⟩
abbrev lZ:Nat:=179
theorem en_179:aM Tryz.prog 179:=⟨_,Tryz.func179,by decide,rfl⟩
abbrev im:Nat:=161
theorem inf_22:∃ i,Tryz.prog.info? 22 = some i∧i.size = 1:=bG (by kernel_rfl)
abbrev fF:Nat:=162
theorem en_162:aM Tryz.prog 162:=⟨_,Tryz.func162,by decide,rfl⟩
theorem en_161:aM Tryz.prog 161:=⟨_,Tryz.func161,by decide,rfl⟩
abbrev qn:Nat:=163
abbrev qo:Nat:=164
def aZ (r:ab × Bool):Value:=.tuple #[(.agg (ab.C r.1).toArray),(.bool r.2)]
theorem cO:∃ i,Tryz.prog.info? 30 = some i∧i.zero = some (.agg (ab.C (⟨0,0⟩:ab)).toArray):=jV (by kernel_rfl)
theorem tD  : ∀ w,(Instr.build 30 #[]).run Tryz.prog w = .ok (.agg (ab.C (⟨0,0⟩:ab)).toArray) w:=fun _=>by kernel_rfl
theorem cH:Ag Tryz.prog 30 2:=⟨⟨_,Tryz.underlying30,rfl⟩,bG (by kernel_rfl)⟩
theorem bI:∃ i,Tryz.prog.info? 30 = some i∧i.size = 2:=bG (by kernel_rfl)
theorem jm (y1:Int):∀ w,(Instr.build 30 #[(1,(.int .u64 y1))]).run Tryz.prog w = .ok (.agg (ab.C (⟨0,y1⟩:ab)).toArray) w:=fun _=>by kernel_rfl
theorem mj:Fld Tryz.prog 157 1 3:=bZ (m:=1) Tryz.underlying157 rfl rfl (by kernel_rfl) (by decide)
theorem wR:Sc Tryz.prog 152:=⟨⟨_,Tryz.underlying152,rfl⟩,bG (by kernel_rfl)⟩
theorem en_163:aM Tryz.prog 163:=⟨_,Tryz.func163,by decide,rfl⟩
theorem en_164:aM Tryz.prog 164:=⟨_,Tryz.func164,by decide,rfl⟩
theorem en_64:aM Tryz.prog 64:=⟨_,Tryz.func64,by decide,rfl⟩
abbrev fd:Nat:=114
def eJ (r:ab × an):Value:=.tuple #[(.agg (ab.C r.1).toArray),(.agg (an.C r.2).toArray)]
theorem jn (y0:Int):∀ w,(Instr.build 30 #[(0,(.int .i64 y0))]).run Tryz.prog w = .ok (.agg (ab.C (⟨y0,0⟩:ab)).toArray) w:=fun _=>by kernel_rfl
theorem iG:Fld Tryz.prog 109 2 2:=bZ (m:=1) Tryz.underlying109 rfl rfl (by kernel_rfl) (by decide)
theorem slc_104:Slc Tryz.prog 104 114 1:=⟨Tryz.underlying104,bG (by kernel_rfl)⟩
theorem uW:aM Tryz.prog 114:=⟨_,Tryz.func114,by decide,rfl⟩
theorem en_113:aM Tryz.prog 113:=⟨_,Tryz.func113,by decide,rfl⟩
theorem sc_114:Sc Tryz.prog 114:=⟨⟨_,Tryz.underlying114,rfl⟩,bG (by kernel_rfl)⟩
theorem wS:Sc Tryz.prog 104:=⟨⟨_,Tryz.underlying104,rfl⟩,bG (by kernel_rfl)⟩
theorem en_112:aM Tryz.prog 112:=⟨_,Tryz.func112,by decide,rfl⟩
theorem en_111:aM Tryz.prog 111:=⟨_,Tryz.func111,by decide,rfl⟩
theorem en_107:aM Tryz.prog 107:=⟨_,Tryz.func107,by decide,rfl⟩
theorem en_110:aM Tryz.prog 110:=⟨_,Tryz.func110,by decide,rfl⟩
abbrev ns:Nat:=65
def R_ (_:Unit):Value:=.tuple #[]
theorem fld_120_0:Fld Tryz.prog 120 0 0:=bZ (m:=1) Tryz.underlying120 rfl rfl (by kernel_rfl) (by decide)
theorem sM:Slc Tryz.prog 42 56 16:=⟨Tryz.underlying42,bG (by kernel_rfl)⟩
theorem ja:Fld Tryz.prog 56 4 8:=bZ (m:=1) Tryz.underlying56 rfl rfl (by kernel_rfl) (by decide)
theorem qW:Fld Tryz.prog 56 5 9:=bZ (m:=1) Tryz.underlying56 rfl rfl (by kernel_rfl) (by decide)
theorem kA:Fld Tryz.prog 56 6 10:=bZ (m:=2) Tryz.underlying56 rfl rfl (by kernel_rfl) (by decide)
theorem gm:Fld Tryz.prog 56 7 12:=bZ (m:=4) Tryz.underlying56 rfl rfl (by kernel_rfl) (by decide)
abbrev me:Nat:=66
abbrev oO:Nat:=67
def rb (r:Sl):Value:=(sv r)
abbrev t_2_tlb_line:Nat:=170
def R_tlb_line (r:ck):Value:=(.agg (ck.C r).toArray)
theorem zero_169:∃ i,Tryz.prog.info? 169 = some i∧i.zero = some (.agg (ck.C (⟨(⟨0,0,0,0⟩:an),0⟩:ck)).toArray):=jV (by kernel_rfl)
abbrev qE:Nat:=76
theorem ag_170:Ag Tryz.prog 170 10:=⟨⟨_,Tryz.underlying170,rfl⟩,bG (by kernel_rfl)⟩
abbrev rg:Nat:=87
theorem slc_76:Slc Tryz.prog 76 54 4:=⟨Tryz.underlying76,bG (by kernel_rfl)⟩
theorem en_87:aM Tryz.prog 87:=⟨_,Tryz.func87,by decide,rfl⟩
abbrev lb:Nat:=68
theorem fld_167_1:Fld Tryz.prog 167 1 1:=bZ (m:=1) Tryz.underlying167 rfl rfl (by kernel_rfl) (by decide)
abbrev lc:Nat:=118
def gS (r:Int):Value:=(.int .u64 r)
theorem fld_167_0:Fld Tryz.prog 167 0 0:=bZ (m:=1) Tryz.underlying167 rfl rfl (by kernel_rfl) (by decide)
theorem sc_39:Sc Tryz.prog 39:=⟨⟨_,Tryz.underlying39,rfl⟩,bG (by kernel_rfl)⟩
abbrev fW:Nat:=119
theorem en_119:aM Tryz.prog 119:=⟨_,Tryz.func119,by decide,rfl⟩
theorem inf_39:∃ i,Tryz.prog.info? 39 = some i∧i.size = 1:=bG (by kernel_rfl)
theorem en_118:aM Tryz.prog 118:=⟨_,Tryz.func118,by decide,rfl⟩
abbrev iU:Nat:=69
theorem mi:Fld Tryz.prog 165 0 0:=bZ (m:=1) Tryz.underlying165 rfl rfl (by kernel_rfl) (by decide)
abbrev lE:Nat:=168
abbrev ti:Nat:=218
theorem en_218:aM Tryz.prog 218:=⟨_,Tryz.func218,by decide,rfl⟩
abbrev ux:Nat:=195
abbrev pK:Nat:=196
theorem en_195:aM Tryz.prog 195:=⟨_,Tryz.func195,by decide,rfl⟩
theorem en_196:aM Tryz.prog 196:=⟨_,Tryz.func196,by decide,rfl⟩
abbrev eK:Nat:=169
abbrev be:Nat:=93
def ce (r:Sl):Value:=(sv r)
abbrev sd:Nat:=198
abbrev kW:Nat:=3
abbrev uR:Nat:=197
theorem en_198:aM Tryz.prog 198:=⟨_,Tryz.func198,by decide,rfl⟩
abbrev dB:Nat:=170
theorem inf_93:∃ i,Tryz.prog.info? 93 = some i∧i.size = 1:=bG (by kernel_rfl)
theorem en_170:aM Tryz.prog 170:=⟨_,Tryz.func170,by decide,rfl⟩
theorem en_169:aM Tryz.prog 169:=⟨_,Tryz.func169,by decide,rfl⟩
theorem en_168:aM Tryz.prog 168:=⟨_,Tryz.func168,by decide,rfl⟩
abbrev pY:Nat:=120
theorem en_120:aM Tryz.prog 120:=⟨_,Tryz.func120,by decide,rfl⟩
abbrev na:Nat:=70
abbrev iT:Nat:=121
theorem en_121:aM Tryz.prog 121:=⟨_,Tryz.func121,by decide,rfl⟩
abbrev js:Nat:=71
abbrev n_plain_fails:Nat:=123
theorem build_36_0_1_2 (y0:Int) (y1:Int) (y2:Int):∀ w,(Instr.build 36 #[(0,(.int .i64 y0)),(1,(.int .i64 y1)),(2,(.int .i64 y2))]).run Tryz.prog w = .ok (.agg (ax.C (⟨y0,y1,y2,0⟩:ax)).toArray) w:=fun _=>by kernel_rfl
abbrev jE:Nat:=142
abbrev ke:Nat:=199
theorem nX:Fld Tryz.prog 210 0 0:=bZ (m:=1) Tryz.underlying210 rfl rfl (by kernel_rfl) (by decide)
theorem en_199:aM Tryz.prog 199:=⟨_,Tryz.func199,by decide,rfl⟩
abbrev jA:Nat:=171
abbrev t_none:Nat:=0
abbrev tf:Nat:=172
theorem nY:Fld Tryz.prog 157 3 5:=bZ (m:=1) Tryz.underlying157 rfl rfl (by kernel_rfl) (by decide)
theorem en_142:aM Tryz.prog 142:=⟨_,Tryz.func142,by decide,rfl⟩
theorem en_172:aM Tryz.prog 172:=⟨_,Tryz.func172,by decide,rfl⟩
theorem en_171:aM Tryz.prog 171:=⟨_,Tryz.func171,by decide,rfl⟩
theorem sc_154:Sc Tryz.prog 154:=⟨⟨_,Tryz.underlying154,rfl⟩,bG (by kernel_rfl)⟩
abbrev lz:Nat:=124
theorem tu:Fld Tryz.prog 36 0 0:=bZ (m:=1) Tryz.underlying36 rfl rfl (by kernel_rfl) (by decide)
theorem build_36_0_1_2_3 (y0:Int) (y1:Int) (y2:Int) (y3:Int):∀ w,(Instr.build 36 #[(0,(.int .i64 y0)),(1,(.int .i64 y1)),(2,(.int .i64 y2)),(3,(.int .i64 y3))]).run Tryz.prog w = .ok (.agg (ax.C (⟨y0,y1,y2,y3⟩:ax)).toArray) w:=fun _=>by kernel_rfl
abbrev ip:Nat:=143
abbrev jB:Nat:=200
theorem en_200:aM Tryz.prog 200:=⟨_,Tryz.func200,by decide,rfl⟩
abbrev lX:Nat:=173
def cX (r:Sl):Value:=(sv r)
abbrev lj:Nat:=205
def R_api_Cap (r:ax):Value:=(.agg (ax.C r).toArray)
theorem uZ (y0:Int) (y1:Int):∀ w,(Instr.build 233 #[(0,(.int .i64 y0)),(1,(.int .i64 y1))]).run Tryz.prog w = .ok (.agg (aF.C (⟨y0,y1⟩:aF)).toArray) w:=fun _=>by kernel_rfl
theorem zero_233:∃ i,Tryz.prog.info? 233 = some i∧i.zero = some (.agg (aF.C (⟨0,0⟩:aF)).toArray):=jV (by kernel_rfl)
theorem ag_233:Ag Tryz.prog 233 2:=⟨⟨_,Tryz.underlying233,rfl⟩,bG (by kernel_rfl)⟩
abbrev hU:Nat:=201
theorem inf_233:∃ i,Tryz.prog.info? 233 = some i∧i.size = 2:=bG (by kernel_rfl)
abbrev kz:Nat:=188
abbrev mg:Nat:=201
theorem slc_201:Slc Tryz.prog 201 233 2:=⟨Tryz.underlying201,bG (by kernel_rfl)⟩
theorem fld_233_0:Fld Tryz.prog 233 0 0:=bZ (m:=1) Tryz.underlying233 rfl rfl (by kernel_rfl) (by decide)
theorem fld_233_1:Fld Tryz.prog 233 1 1:=bZ (m:=1) Tryz.underlying233 rfl rfl (by kernel_rfl) (by decide)
abbrev gM:Nat:=202
abbrev lf:Nat:=190
def aF.eqb (x y:aF):Bool:=((x.fEnv == y.fEnv) && ((x.fSlot == y.fSlot) && true))
theorem eqr_233 (n:Nat) (x y:aF):EqR Tryz.prog (n + 2) 233 (.agg (aF.C x).toArray) (.agg (aF.C y).toArray) (aF.eqb x y):=xv Tryz.underlying233 (by kernel_rfl) (lK (by decide) (hY bb rfl) (hY bb rfl) (jt (n:=n + 0) Tryz.underlying3) (lK (by decide) (hY bb rfl) (hY bb rfl) (jt (n:=n + 0) Tryz.underlying3) eqf_nil))
theorem eqg_233:Tryz.prog.eqGuardType Tryz.prog.depth 233 = false:=by kernel_rfl
theorem en_190:aM Tryz.prog 190:=⟨_,Tryz.func190,by decide,rfl⟩
abbrev gN:Nat:=203
def dx (r:Sl × Int):Value:=.tuple #[(sv r.1),(.int .i64 r.2)]
theorem en_202:aM Tryz.prog 202:=⟨_,Tryz.func202,by decide,rfl⟩
theorem en_188:aM Tryz.prog 188:=⟨_,Tryz.func188,by decide,rfl⟩
abbrev rQ:Nat:=233
theorem en_201:aM Tryz.prog 201:=⟨_,Tryz.func201,by decide,rfl⟩
abbrev rR:Nat:=155
abbrev mh:Nat:=174
theorem en_174:aM Tryz.prog 174:=⟨_,Tryz.func174,by decide,rfl⟩
theorem en_173:aM Tryz.prog 173:=⟨_,Tryz.func173,by decide,rfl⟩
theorem en_143:aM Tryz.prog 143:=⟨_,Tryz.func143,by decide,rfl⟩
abbrev iw:Nat:=125
def jv (r:am × Int):Value:=.tuple #[(.agg (am.C r.1).toArray),(.int .i64 r.2)]
abbrev iS:Nat:=128
abbrev lH:Nat:=189
abbrev lh:Nat:=147
theorem en_147:aM Tryz.prog 147:=⟨_,Tryz.func147,by decide,rfl⟩
abbrev nu:Nat:=175
abbrev tO:Nat:=80
abbrev lW:Nat:=176
abbrev mZ:Nat:=177
def hH (r:ab):Value:=(.agg (ab.C r).toArray)
theorem en_128:aM Tryz.prog 128:=⟨_,Tryz.func128,by decide,rfl⟩
theorem en_177:aM Tryz.prog 177:=⟨_,Tryz.func177,by decide,rfl⟩
theorem en_176:aM Tryz.prog 176:=⟨_,Tryz.func176,by decide,rfl⟩
theorem en_175:aM Tryz.prog 175:=⟨_,Tryz.func175,by decide,rfl⟩
abbrev kM:Nat:=126
theorem pb (y0:Int) (y1:Int) (y2:Int):∀ w,(Instr.build 79 #[(0,(.int .i64 y0)),(1,(.int .i64 y1)),(2,(.int .i64 y2))]).run Tryz.prog w = .ok (.agg (am.C (⟨y0,y1,y2⟩:am)).toArray) w:=fun _=>by kernel_rfl
abbrev mA:Nat:=127
abbrev kL:Nat:=178
theorem en_178:aM Tryz.prog 178:=⟨_,Tryz.func178,by decide,rfl⟩
abbrev kg:Nat:=129
abbrev n_pred_Holds:Nat:=148
theorem rq:aM Tryz.prog 123:=⟨_,Tryz.func123,by decide,rfl⟩
theorem en_148:aM Tryz.prog 148:=⟨_,Tryz.func148,by decide,rfl⟩
abbrev ly:Nat:=130
abbrev my:Nat:=131
theorem en_126:aM Tryz.prog 126:=⟨_,Tryz.func126,by decide,rfl⟩
theorem en_124:aM Tryz.prog 124:=⟨_,Tryz.func124,by decide,rfl⟩
theorem en_125:aM Tryz.prog 125:=⟨_,Tryz.func125,by decide,rfl⟩
theorem en_127:aM Tryz.prog 127:=⟨_,Tryz.func127,by decide,rfl⟩
theorem en_129:aM Tryz.prog 129:=⟨_,Tryz.func129,by decide,rfl⟩
theorem en_130:aM Tryz.prog 130:=⟨_,Tryz.func130,by decide,rfl⟩
theorem en_131:aM Tryz.prog 131:=⟨_,Tryz.func131,by decide,rfl⟩
abbrev dz:Nat:=72
theorem en_66:aM Tryz.prog 66:=⟨_,Tryz.func66,by decide,rfl⟩
theorem en_65:aM Tryz.prog 65:=⟨_,Tryz.func65,by decide,rfl⟩
theorem fld_109_4:Fld Tryz.prog 109 4 4:=bZ (m:=1) Tryz.underlying109 rfl rfl (by kernel_rfl) (by decide)
theorem fld_120_4:Fld Tryz.prog 120 4 8:=bZ (m:=1) Tryz.underlying120 rfl rfl (by kernel_rfl) (by decide)
theorem fld_109_3:Fld Tryz.prog 109 3 3:=bZ (m:=1) Tryz.underlying109 rfl rfl (by kernel_rfl) (by decide)
theorem en_70:aM Tryz.prog 70:=⟨_,Tryz.func70,by decide,rfl⟩
theorem sc_105:Sc Tryz.prog 105:=⟨⟨_,Tryz.underlying105,rfl⟩,bG (by kernel_rfl)⟩
theorem en_69:aM Tryz.prog 69:=⟨_,Tryz.func69,by decide,rfl⟩
theorem sc_106:Sc Tryz.prog 106:=⟨⟨_,Tryz.underlying106,rfl⟩,bG (by kernel_rfl)⟩
theorem en_68:aM Tryz.prog 68:=⟨_,Tryz.func68,by decide,rfl⟩
theorem inf_4:∃ i,Tryz.prog.info? 4 = some i∧i.size = 1:=bG (by kernel_rfl)
theorem en_72:aM Tryz.prog 72:=⟨_,Tryz.func72,by decide,rfl⟩
theorem en_71:aM Tryz.prog 71:=⟨_,Tryz.func71,by decide,rfl⟩
theorem en_67:aM Tryz.prog 67:=⟨_,Tryz.func67,by decide,rfl⟩
abbrev qa:Nat:=28
abbrev la:Nat:=132
theorem en_132:aM Tryz.prog 132:=⟨_,Tryz.func132,by decide,rfl⟩
abbrev ma:Nat:=97
abbrev kj:Nat:=98
theorem en_98:aM Tryz.prog 98:=⟨_,Tryz.func98,by decide,rfl⟩
theorem en_97:aM Tryz.prog 97:=⟨_,Tryz.func97,by decide,rfl⟩
abbrev qb:Nat:=46
abbrev qc:Nat:=73
theorem en_28:aM Tryz.prog 28:=⟨_,Tryz.func28,by decide,rfl⟩
theorem en_46:aM Tryz.prog 46:=⟨_,Tryz.func46,by decide,rfl⟩
theorem en_73:aM Tryz.prog 73:=⟨_,Tryz.func73,by decide,rfl⟩
abbrev gY:Nat:=29
theorem tt:Fld Tryz.prog 56 0 0:=bZ (m:=1) Tryz.underlying56 rfl rfl (by kernel_rfl) (by decide)
theorem en_20:aM Tryz.prog 20:=⟨_,Tryz.func20,by decide,rfl⟩
theorem en_29:aM Tryz.prog 29:=⟨_,Tryz.func29,by decide,rfl⟩
theorem en_27:aM Tryz.prog 27:=⟨_,Tryz.func27,by decide,rfl⟩
abbrev cm:Nat:=16
theorem oY:Fld Tryz.prog 25 0 0:=bZ (m:=1) Tryz.underlying25 rfl rfl (by kernel_rfl) (by decide)
theorem oX:Fld Tryz.prog 56 1 1:=bZ (m:=1) Tryz.underlying56 rfl rfl (by kernel_rfl) (by decide)
theorem tq:Fld Tryz.prog 56 3 7:=bZ (m:=1) Tryz.underlying56 rfl rfl (by kernel_rfl) (by decide)
abbrev n_hist_one:Nat:=61
abbrev jx:Nat:=61
def R_map_int_bool (r:(Option Nat)):Value:=(.map r)
abbrev hO:Nat:=95
def R_map_int_int (r:(Option Nat)):Value:=(.map r)
theorem zero_56:∃ i,Tryz.prog.info? 56 = some i∧i.zero = some (.agg (aE.C (⟨0,0,(⟨0,0,0,0,0⟩:ah),0,0,0,(⟨0,0⟩:ab),(⟨0,0,0,0⟩:an)⟩:aE)).toArray):=jV (by kernel_rfl)
theorem ag_56:Ag Tryz.prog 56 16:=⟨⟨_,Tryz.underlying56,rfl⟩,bG (by kernel_rfl)⟩
theorem pf:Ag Tryz.prog 25 3:=⟨⟨_,Tryz.underlying25,rfl⟩,bG (by kernel_rfl)⟩
theorem en_61:aM Tryz.prog 61:=⟨_,Tryz.func61,by decide,rfl⟩
theorem inf_56:∃ i,Tryz.prog.info? 56 = some i∧i.size = 16:=bG (by kernel_rfl)
abbrev xd:Nat:=25
abbrev qr:Nat:=92
abbrev nc:Nat:=93
abbrev bW:Nat:=181
abbrev ky:Nat:=182
theorem en_182:aM Tryz.prog 182:=⟨_,Tryz.func182,by decide,rfl⟩
theorem en_181:aM Tryz.prog 181:=⟨_,Tryz.func181,by decide,rfl⟩
abbrev lx:Nat:=137
theorem en_137:aM Tryz.prog 137:=⟨_,Tryz.func137,by decide,rfl⟩
abbrev fK:Nat:=94
abbrev n_cmp_isNaN_int:Nat:=138
theorem en_138:aM Tryz.prog 138:=⟨_,Tryz.func138,by decide,rfl⟩
abbrev uy:Nat:=96
theorem en_96:aM Tryz.prog 96:=⟨_,Tryz.func96,by decide,rfl⟩
abbrev rm:Nat:=95
theorem en_94:aM Tryz.prog 94:=⟨_,Tryz.func94,by decide,rfl⟩
theorem en_92:aM Tryz.prog 92:=⟨_,Tryz.func92,by decide,rfl⟩
abbrev oS:Nat:=44
def tH (r:Ptr):Value:=(pv r)
theorem build_212  : ∀ w,(Instr.build 212 #[]).run Tryz.prog w = .ok (.agg (sD.C (⟨(⟨none,0,0,none⟩:Sl)⟩:sD)).toArray) w:=fun _=>by kernel_rfl
abbrev pT:Nat:=163
def R_SSuint64 (r:Sl):Value:=(sv r)
theorem inf_163:∃ i,Tryz.prog.info? 163 = some i∧i.size = 1:=bG (by kernel_rfl)
abbrev lQ:Nat:=212
abbrev vM:Nat:=104
def so (r:Ptr):Value:=(pv r)
theorem build_210_0 (y0:Sl):∀ w,(Instr.build 210 #[(0,(sv y0))]).run Tryz.prog w = .ok (.agg (nZ.C (⟨y0⟩:nZ)).toArray) w:=fun _=>by kernel_rfl
abbrev qB:Nat:=210
abbrev xa:Nat:=105
def sq (r:Ptr):Value:=(pv r)
abbrev t_S_8_api_Cap:Nat:=206
def R_S_8_api_Cap (r:Sl):Value:=(sv r)
theorem build_208_0 (y0:Sl):∀ w,(Instr.build 208 #[(0,(sv y0))]).run Tryz.prog w = .ok (.agg (oe.C (⟨y0⟩:oe)).toArray) w:=fun _=>by kernel_rfl
abbrev nG:Nat:=208
abbrev xe:Nat:=106
def dM (r:Ptr):Value:=(pv r)
theorem vS:Fld Tryz.prog 25 2 2:=bZ (m:=1) Tryz.underlying25 rfl rfl (by kernel_rfl) (by decide)
theorem build_157_0_1_3_4 (y0:aB) (y1:Ptr) (y3:Ptr) (y4:Ptr):∀ w,(Instr.build 157 #[(0,(.agg (aB.C y0).toArray)),(1,(pv y1)),(3,(pv y3)),(4,(pv y4))]).run Tryz.prog w = .ok (.agg (gq.C (⟨y0,y1,(⟨none,0,0,none⟩:Sl),y3,y4⟩:gq)).toArray) w:=fun _=>by kernel_rfl
abbrev eP:Nat:=153
def ng (r:Sl):Value:=(sv r)
theorem inf_153:∃ i,Tryz.prog.info? 153 = some i∧i.size = 1:=bG (by kernel_rfl)
abbrev cD:Nat:=157
theorem en_106:aM Tryz.prog 106:=⟨_,Tryz.func106,by decide,rfl⟩
theorem en_105:aM Tryz.prog 105:=⟨_,Tryz.func105,by decide,rfl⟩
theorem en_104:aM Tryz.prog 104:=⟨_,Tryz.func104,by decide,rfl⟩
abbrev nO:Nat:=56
theorem mR:Fld Tryz.prog 56 2 2:=bZ (m:=5) Tryz.underlying56 rfl rfl (by kernel_rfl) (by decide)
abbrev n_judge_user:Nat:=139
abbrev gG:Nat:=180
theorem en_180:aM Tryz.prog 180:=⟨_,Tryz.func180,by decide,rfl⟩
abbrev ri:Nat:=136
abbrev mz:Nat:=207
theorem en_136:aM Tryz.prog 136:=⟨_,Tryz.func136,by decide,rfl⟩
theorem en_207:aM Tryz.prog 207:=⟨_,Tryz.func207,by decide,rfl⟩
theorem en_56:aM Tryz.prog 56:=⟨_,Tryz.func56,by decide,rfl⟩
abbrev gL:Nat:=184
abbrev th:Nat:=221
abbrev n_hist_Over:Nat:=206
def qm (r:Sl):Value:=(sv r)
theorem vW:Fld Tryz.prog 196 2 4:=bZ (m:=1) Tryz.underlying196 rfl rfl (by kernel_rfl) (by decide)
abbrev pS:Nat:=240
theorem fld_196_0:Fld Tryz.prog 196 0 0:=bZ (m:=1) Tryz.underlying196 rfl rfl (by kernel_rfl) (by decide)
theorem en_184:aM Tryz.prog 184:=⟨_,Tryz.func184,by decide,rfl⟩
theorem en_206:aM Tryz.prog 206:=⟨_,Tryz.func206,by decide,rfl⟩
abbrev lF:Nat:=183
theorem fld_196_1:Fld Tryz.prog 196 1 1:=bZ (m:=3) Tryz.underlying196 rfl rfl (by kernel_rfl) (by decide)
def ab.eqb (x y:ab):Bool:=((x.fErr == y.fErr) && ((x.fVal == y.fVal) && true))
theorem ll:Sc Tryz.prog 28:=⟨⟨_,Tryz.underlying28,rfl⟩,bG (by kernel_rfl)⟩
theorem eqr_30 (n:Nat) (x y:ab):EqR Tryz.prog (n + 2) 30 (.agg (ab.C x).toArray) (.agg (ab.C y).toArray) (ab.eqb x y):=xv Tryz.underlying30 (by kernel_rfl) (lK (by decide) (hY ll rfl) (hY ll rfl) (jt (n:=n + 0) Tryz.underlying28) (lK (by decide) (hY cz rfl) (hY cz rfl) (jt (n:=n + 0) Tryz.underlying22) eqf_nil))
theorem eqg_30:Tryz.prog.eqGuardType Tryz.prog.depth 30 = false:=by kernel_rfl
def an.eqb (x y:an):Bool:=((x.fEnv == y.fEnv) && ((x.fPage == y.fPage) && ((x.fFrame == y.fFrame) && ((x.fRights == y.fRights) && true))))
theorem eqr_54 (n:Nat) (x y:an):EqR Tryz.prog (n + 2) 54 (.agg (an.C x).toArray) (.agg (an.C y).toArray) (an.eqb x y):=xv Tryz.underlying54 (by kernel_rfl) (lK (by decide) (hY bb rfl) (hY bb rfl) (jt (n:=n + 0) Tryz.underlying3) (lK (by decide) (hY bb rfl) (hY bb rfl) (jt (n:=n + 0) Tryz.underlying3) (lK (by decide) (hY bb rfl) (hY bb rfl) (jt (n:=n + 0) Tryz.underlying3) (lK (by decide) (hY bb rfl) (hY bb rfl) (jt (n:=n + 0) Tryz.underlying3) eqf_nil))))
theorem eqg_54:Tryz.prog.eqGuardType Tryz.prog.depth 54 = false:=by kernel_rfl
theorem slc_240:Slc Tryz.prog 240 79 3:=⟨Tryz.underlying240,bG (by kernel_rfl)⟩
theorem gQ:Fld Tryz.prog 30 0 0:=bZ (m:=1) Tryz.underlying30 rfl rfl (by kernel_rfl) (by decide)
theorem fld_30_1:Fld Tryz.prog 30 1 1:=bZ (m:=1) Tryz.underlying30 rfl rfl (by kernel_rfl) (by decide)
theorem en_183:aM Tryz.prog 183:=⟨_,Tryz.func183,by decide,rfl⟩
abbrev lG:Nat:=140
abbrev nt:Nat:=141
theorem build_196_0_1_2 (y0:Sl) (y1:aB) (y2:Ptr):∀ w,(Instr.build 196 #[(0,(sv y0)),(1,(.agg (aB.C y1).toArray)),(2,(pv y2))]).run Tryz.prog w = .ok (.agg (kK.C (⟨y0,y1,y2⟩:kK)).toArray) w:=fun _=>by kernel_rfl
theorem en_141:aM Tryz.prog 141:=⟨_,Tryz.func141,by decide,rfl⟩
theorem en_140:aM Tryz.prog 140:=⟨_,Tryz.func140,by decide,rfl⟩
theorem en_139:aM Tryz.prog 139:=⟨_,Tryz.func139,by decide,rfl⟩
theorem en_44:aM Tryz.prog 44:=⟨_,Tryz.func44,by decide,rfl⟩
abbrev dp:Nat:=196
theorem en_25:aM Tryz.prog 25:=⟨_,Tryz.func25,by decide,rfl⟩
abbrev uu:Nat:=99
theorem en_99:aM Tryz.prog 99:=⟨_,Tryz.func99,by decide,rfl⟩
abbrev oQ:Nat:=47
abbrev oR:Nat:=48
theorem en_48:aM Tryz.prog 48:=⟨_,Tryz.func48,by decide,rfl⟩
theorem en_47:aM Tryz.prog 47:=⟨_,Tryz.func47,by decide,rfl⟩
abbrev qp:Nat:=19
def ph (r:Ptr):Value:=(pv r)
theorem build_165_0 (y0:Sl):∀ w,(Instr.build 165 #[(0,(sv y0))]).run Tryz.prog w = .ok (.agg (oa.C (⟨y0⟩:oa)).toArray) w:=fun _=>by kernel_rfl
abbrev li:Nat:=165
abbrev tg:Nat:=57
def iI (r:Ptr):Value:=(pv r)
theorem build_167_1 (y1:Sl):∀ w,(Instr.build 167 #[(1,(sv y1))]).run Tryz.prog w = .ok (.agg (jL.C (⟨(⟨none,0,0,none⟩:Sl),y1⟩:jL)).toArray) w:=fun _=>by kernel_rfl
abbrev ig:Nat:=167
abbrev nR:Nat:=58
abbrev rh:Nat:=108
def gJ (r:Ptr):Value:=(pv r)
abbrev pR:Nat:=173
theorem en_108:aM Tryz.prog 108:=⟨_,Tryz.func108,by decide,rfl⟩
abbrev iE:Nat:=59
def ku (r:Ptr):Value:=(pv r)
abbrev mM:Nat:=107
def qx (r:Sl):Value:=(sv r)
theorem mD (y0:Ptr) (y1:Int) (y3:Ptr) (y4:Ptr) (y5:Sl):∀ w,(Instr.build 109 #[(0,(pv y0)),(1,(.int .i64 y1)),(3,(pv y3)),(4,(pv y4)),(5,(sv y5))]).run Tryz.prog w = .ok (.agg (fI.C (⟨y0,y1,(⟨none,0,0,none⟩:Sl),y3,y4,y5,(⟨none,0,0,none⟩:Sl),0⟩:fI)).toArray) w:=fun _=>by kernel_rfl
abbrev bP:Nat:=104
def dN (r:Sl):Value:=(sv r)
theorem inf_104:∃ i,Tryz.prog.info? 104 = some i∧i.size = 1:=bG (by kernel_rfl)
theorem en_59:aM Tryz.prog 59:=⟨_,Tryz.func59,by decide,rfl⟩
abbrev ci:Nat:=109
theorem en_58:aM Tryz.prog 58:=⟨_,Tryz.func58,by decide,rfl⟩
theorem en_57:aM Tryz.prog 57:=⟨_,Tryz.func57,by decide,rfl⟩
abbrev xc:Nat:=23
def og (r:Sl):Value:=(sv r)
abbrev nH:Nat:=45
theorem build_51_0_1 (y0:Int) (y1:Int):∀ w,(Instr.build 51 #[(0,(.int .i64 y0)),(1,(.int .i64 y1))]).run Tryz.prog w = .ok (.agg (dR.C (⟨y0,y1,0,(⟨0,0,0,0,0⟩:ah),0,0⟩:dR)).toArray) w:=fun _=>by kernel_rfl
abbrev uS:Nat:=49
abbrev lY:Nat:=103
theorem en_103:aM Tryz.prog 103:=⟨_,Tryz.func103,by decide,rfl⟩
abbrev jr:Nat:=54
abbrev wX:Nat:=185
theorem en_185:aM Tryz.prog 185:=⟨_,Tryz.func185,by decide,rfl⟩
abbrev n_user_Do:Nat:=144
def iz (r:Value):Value:=(r)
theorem build_254_0_1 (y0:Int) (y1:Int):∀ w,(Instr.build 254 #[(0,(.int .i64 y0)),(1,(.int .i64 y1))]).run Tryz.prog w = .ok (.agg (bX.C (⟨y0,y1,(⟨0,0,0,0,0⟩:ah),Value.nilIface⟩:bX)).toArray) w:=fun _=>by kernel_rfl
abbrev bg:Nat:=252
abbrev nF:Nat:=254
abbrev kE:Nat:=150
abbrev gi:Nat:=191
theorem ag_296:Ag Tryz.prog 296 3:=⟨⟨_,Tryz.underlying296,rfl⟩,bG (by kernel_rfl)⟩
abbrev fw:Nat:=233
def fE (r:aK):Value:=(.agg (aK.C r).toArray)
abbrev cY:Nat:=229
abbrev fB:Nat:=234
abbrev gx:Nat:=199
abbrev jh:Nat:=277
def gr (r:Value × Bool):Value:=.tuple #[(r.1),(.bool r.2)]
abbrev iB:Nat:=279
def fZ (r:Value × Bool):Value:=.tuple #[(r.1),(.bool r.2)]
def R_Serror (r:Sl):Value:=(sv r)
theorem slc_280:Slc Tryz.prog 280 199 1:=⟨Tryz.underlying280,bG (by kernel_rfl)⟩
abbrev uv:Nat:=232
theorem en_232:aM Tryz.prog 232:=⟨_,Tryz.func232,by decide,rfl⟩
theorem sc_199:Sc Tryz.prog 199:=⟨⟨_,Tryz.underlying199,rfl⟩,bG (by kernel_rfl)⟩
abbrev qC:Nat:=305
def nD (r:Value × Bool):Value:=.tuple #[(r.1),(.bool r.2)]
theorem zero_296:∃ i,Tryz.prog.info? 296 = some i∧i.zero = some (.agg (aK.C (⟨none,none,0⟩:aK)).toArray):=jV (by kernel_rfl)
abbrev iA:Nat:=230
def R_abi_Kind (r:Int):Value:=(.int .u8 r)
def str_6ae768b9:ByteArray:=⟨#[101,114,114,111,114,115,58,32,42,116,97,114,103,101,116,32,109,117,115,116,32,98,101,32,105,110,116,101,114,102,97,99,101,32,111,114,32,105,109,112,108,101,109,101,110,116,32,101,114,114,111,114]⟩
abbrev va:Nat:=9
theorem sc_249:Sc Tryz.prog 249:=⟨⟨_,Tryz.underlying249,rfl⟩,bG (by kernel_rfl)⟩
abbrev eX:Nat:=231
def str_ae9b7a08:ByteArray:=⟨#[101,114,114,111,114,115,58,32,116,97,114,103,101,116,32,109,117,115,116,32,98,101,32,97,32,110,111,110,45,110,105,108,32,112,111,105,110,116,101,114]⟩
theorem inf_296:∃ i,Tryz.prog.info? 296 = some i∧i.size = 3:=bG (by kernel_rfl)
def str_53947bae:ByteArray:=⟨#[101,114,114,111,114,115,58,32,116,97,114,103,101,116,32,99,97,110,110,111,116,32,98,101,32,110,105,108]⟩
abbrev uw:Nat:=227
def eH (r:Ptr × Bool):Value:=.tuple #[(pv r.1),(.bool r.2)]
theorem zero_252:∃ i,Tryz.prog.info? 252 = some i∧i.zero = some (pv none):=jV (by kernel_rfl)
theorem sc_252:Sc Tryz.prog 252:=⟨⟨_,Tryz.underlying252,rfl⟩,bG (by kernel_rfl)⟩
abbrev bB:Nat:=290
theorem en_227:aM Tryz.prog 227:=⟨_,Tryz.func227,by decide,rfl⟩
abbrev jZ:Nat:=222
theorem vV:Fld Tryz.prog 254 0 0:=bZ (m:=1) Tryz.underlying254 rfl rfl (by kernel_rfl) (by decide)
theorem en_222:aM Tryz.prog 222:=⟨_,Tryz.func222,by decide,rfl⟩
abbrev ut:Nat:=208
def R_trap_Trap (r:bX):Value:=(.agg (bX.C r).toArray)
theorem en_208:aM Tryz.prog 208:=⟨_,Tryz.func208,by decide,rfl⟩
abbrev n_trap_In:Nat:=186
theorem xw:aM Tryz.prog 150:=⟨_,Tryz.func150,by decide,rfl⟩
theorem en_186:aM Tryz.prog 186:=⟨_,Tryz.func186,by decide,rfl⟩
abbrev nr:Nat:=145
def pj (r:Ptr):Value:=(pv r)
theorem build_285_0 (y0:Int):∀ w,(Instr.build 285 #[(0,(.int .u64 y0))]).run Tryz.prog w = .ok (.agg (od.C (⟨y0,0⟩:od)).toArray) w:=fun _=>by kernel_rfl
abbrev qD:Nat:=285
abbrev tj:Nat:=209
def tG (r:Ptr):Value:=(pv r)
theorem build_287_0_1 (y0:Ptr) (y1:Ptr):∀ w,(Instr.build 287 #[(0,(pv y0)),(1,(pv y1))]).run Tryz.prog w = .ok (.agg (kJ.C (⟨y0,y1⟩:kJ)).toArray) w:=fun _=>by kernel_rfl
abbrev mK:Nat:=287
theorem en_209:aM Tryz.prog 209:=⟨_,Tryz.func209,by decide,rfl⟩
abbrev wZ:Nat:=210
theorem sA:Fld Tryz.prog 285 1 1:=bZ (m:=1) Tryz.underlying285 rfl rfl (by kernel_rfl) (by decide)
theorem nW:Fld Tryz.prog 285 0 0:=bZ (m:=1) Tryz.underlying285 rfl rfl (by kernel_rfl) (by decide)
abbrev oU:Nat:=211
theorem fld_287_0:Fld Tryz.prog 287 0 0:=bZ (m:=1) Tryz.underlying287 rfl rfl (by kernel_rfl) (by decide)
theorem en_211:aM Tryz.prog 211:=⟨_,Tryz.func211,by decide,rfl⟩
theorem sc_266:Sc Tryz.prog 266:=⟨⟨_,Tryz.underlying266,rfl⟩,bG (by kernel_rfl)⟩
abbrev nq:Nat:=212
abbrev nP:Nat:=192
theorem en_192:aM Tryz.prog 192:=⟨_,Tryz.func192,by decide,rfl⟩
abbrev mq:Nat:=274
def jM (r:Value × Bool):Value:=.tuple #[(r.1),(.bool r.2)]
abbrev nQ:Nat:=149
theorem fld_254_3:Fld Tryz.prog 254 3 7:=bZ (m:=1) Tryz.underlying254 rfl rfl (by kernel_rfl) (by decide)
abbrev wY:Nat:=228
theorem je (y0:Int) (y1:Int):∀ w,(Instr.build 34 #[(0,(.int .u64 y0)),(1,(.int .u64 y1))]).run Tryz.prog w = .ok (.agg (ah.C (⟨y0,y1,0,0,0⟩:ah)).toArray) w:=fun _=>by kernel_rfl
theorem fld_254_1:Fld Tryz.prog 254 1 1:=bZ (m:=1) Tryz.underlying254 rfl rfl (by kernel_rfl) (by decide)
theorem fld_254_2:Fld Tryz.prog 254 2 2:=bZ (m:=5) Tryz.underlying254 rfl rfl (by kernel_rfl) (by decide)
def ah.eqb (x y:ah):Bool:=((x.e0 == y.e0) && ((x.e1 == y.e1) && ((x.e2 == y.e2) && ((x.e3 == y.e3) && ((x.e4 == y.e4) && true)))))
theorem eqr_34 (n:Nat) (x y:ah):EqR Tryz.prog (n + 2) 34 (.agg (ah.C x).toArray) (.agg (ah.C y).toArray) (ah.eqb x y):=eqr_arr Tryz.underlying34 inf_22 ⟨_,_,_,_,(hY cz rfl),(hY cz rfl),(jt (n:=n + 0) Tryz.underlying22),⟨_,_,_,_,(hY cz rfl),(hY cz rfl),(jt (n:=n + 0) Tryz.underlying22),⟨_,_,_,_,(hY cz rfl),(hY cz rfl),(jt (n:=n + 0) Tryz.underlying22),⟨_,_,_,_,(hY cz rfl),(hY cz rfl),(jt (n:=n + 0) Tryz.underlying22),⟨_,_,_,_,(hY cz rfl),(hY cz rfl),(jt (n:=n + 0) Tryz.underlying22),rfl,rfl⟩,rfl⟩,rfl⟩,rfl⟩,rfl⟩
theorem eqg_34:Tryz.prog.eqGuardType Tryz.prog.depth 34 = false:=by kernel_rfl
def dS (r:ByteArray):Value:=(.string r)
def ou:ByteArray:=⟨#[116,114,97,112,32,51,58,32,116,114,97,112,32,51]⟩
theorem en_149:aM Tryz.prog 149:=⟨_,Tryz.func149,by decide,rfl⟩
theorem en_228:aM Tryz.prog 228:=⟨_,Tryz.func228,by decide,rfl⟩
abbrev lC:Nat:=223
theorem en_223:aM Tryz.prog 223:=⟨_,Tryz.func223,by decide,rfl⟩
abbrev lD:Nat:=213
abbrev mf:Nat:=224
theorem fld_287_1:Fld Tryz.prog 287 1 1:=bZ (m:=1) Tryz.underlying287 rfl rfl (by kernel_rfl) (by decide)
theorem en_224:aM Tryz.prog 224:=⟨_,Tryz.func224,by decide,rfl⟩
abbrev ka:Nat:=214
abbrev rn:Nat:=225
theorem en_225:aM Tryz.prog 225:=⟨_,Tryz.func225,by decide,rfl⟩
theorem en_214:aM Tryz.prog 214:=⟨_,Tryz.func214,by decide,rfl⟩
abbrev np:Nat:=215
abbrev n_word_Args:Nat:=216
abbrev pX:Nat:=217
theorem build_34_0 (y0:Int):∀ w,(Instr.build 34 #[(0,(.int .u64 y0))]).run Tryz.prog w = .ok (.agg (ah.C (⟨y0,0,0,0,0⟩:ah)).toArray) w:=fun _=>by kernel_rfl
theorem fo (y0:Int) (y1:Int) (y2:Int) (y3:Int):∀ w,(Instr.build 34 #[(0,(.int .u64 y0)),(1,(.int .u64 y1)),(2,(.int .u64 y2)),(3,(.int .u64 y3))]).run Tryz.prog w = .ok (.agg (ah.C (⟨y0,y1,y2,y3,0⟩:ah)).toArray) w:=fun _=>by kernel_rfl
theorem en_217:aM Tryz.prog 217:=⟨_,Tryz.func217,by decide,rfl⟩
theorem en_216:aM Tryz.prog 216:=⟨_,Tryz.func216,by decide,rfl⟩
theorem en_215:aM Tryz.prog 215:=⟨_,Tryz.func215,by decide,rfl⟩
theorem en_213:aM Tryz.prog 213:=⟨_,Tryz.func213,by decide,rfl⟩
theorem en_212:aM Tryz.prog 212:=⟨_,Tryz.func212,by decide,rfl⟩
theorem en_210:aM Tryz.prog 210:=⟨_,Tryz.func210,by decide,rfl⟩
abbrev lA:Nat:=187
theorem en_187:aM Tryz.prog 187:=⟨_,Tryz.func187,by decide,rfl⟩
abbrev lB:Nat:=146
theorem tE (y0:Int) (y1:Int) (y2:Int):∀ w,(Instr.build 25 #[(0,(.int .i64 y0)),(1,(.int .i64 y1)),(2,(.int .i64 y2))]).run Tryz.prog w = .ok (.agg (aB.C (⟨y0,y1,y2⟩:aB)).toArray) w:=fun _=>by kernel_rfl
theorem lO (y0:Int) (y1:Int) (y2:Int):∀ w,(Instr.build 34 #[(0,(.int .u64 y0)),(1,(.int .u64 y1)),(2,(.int .u64 y2))]).run Tryz.prog w = .ok (.agg (ah.C (⟨y0,y1,y2,0,0⟩:ah)).toArray) w:=fun _=>by kernel_rfl
theorem en_54:aM Tryz.prog 54:=⟨_,Tryz.func54,by decide,rfl⟩
theorem en_146:aM Tryz.prog 146:=⟨_,Tryz.func146,by decide,rfl⟩
theorem en_145:aM Tryz.prog 145:=⟨_,Tryz.func145,by decide,rfl⟩
theorem en_144:aM Tryz.prog 144:=⟨_,Tryz.func144,by decide,rfl⟩
abbrev kO:Nat:=100
theorem en_100:aM Tryz.prog 100:=⟨_,Tryz.func100,by decide,rfl⟩
abbrev kP:Nat:=50
theorem slc_45:Slc Tryz.prog 45 51 10:=⟨Tryz.underlying45,bG (by kernel_rfl)⟩
theorem zero_51:∃ i,Tryz.prog.info? 51 = some i∧i.zero = some (.agg (dR.C (⟨0,0,0,(⟨0,0,0,0,0⟩:ah),0,0⟩:dR)).toArray):=jV (by kernel_rfl)
theorem fld_51_0:Fld Tryz.prog 51 0 0:=bZ (m:=1) Tryz.underlying51 rfl rfl (by kernel_rfl) (by decide)
theorem fld_51_1:Fld Tryz.prog 51 1 1:=bZ (m:=1) Tryz.underlying51 rfl rfl (by kernel_rfl) (by decide)
theorem inf_51:∃ i,Tryz.prog.info? 51 = some i∧i.size = 10:=bG (by kernel_rfl)
theorem ag_51:Ag Tryz.prog 51 10:=⟨⟨_,Tryz.underlying51,rfl⟩,bG (by kernel_rfl)⟩
abbrev oT:Nat:=101
theorem en_101:aM Tryz.prog 101:=⟨_,Tryz.func101,by decide,rfl⟩
abbrev n_fair_Fair:Nat:=51
def mV (r:Sl):Value:=(sv r)
abbrev mL:Nat:=101
abbrev n_twin_View:Nat:=52
theorem zero_25:∃ i,Tryz.prog.info? 25 = some i∧i.zero = some (.agg (aB.C (⟨0,0,0⟩:aB)).toArray):=jV (by kernel_rfl)
theorem en_19:aM Tryz.prog 19:=⟨_,Tryz.func19,by decide,rfl⟩
theorem en_52:aM Tryz.prog 52:=⟨_,Tryz.func52,by decide,rfl⟩
theorem en_51:aM Tryz.prog 51:=⟨_,Tryz.func51,by decide,rfl⟩
theorem en_50:aM Tryz.prog 50:=⟨_,Tryz.func50,by decide,rfl⟩
theorem en_49:aM Tryz.prog 49:=⟨_,Tryz.func49,by decide,rfl⟩
theorem en_16:aM Tryz.prog 16:=⟨_,Tryz.func16,by decide,rfl⟩
theorem en_23:aM Tryz.prog 23:=⟨_,Tryz.func23,by decide,rfl⟩
theorem inf_25:∃ i,Tryz.prog.info? 25 = some i∧i.size = 3:=bG (by kernel_rfl)
abbrev kN:Nat:=14
abbrev t_Sapi_Call:Nat:=69
def R_Sapi_Call (r:Sl):Value:=(sv r)
theorem slc_69:Slc Tryz.prog 69 34 5:=⟨Tryz.underlying69,bG (by kernel_rfl)⟩
theorem zero_34:∃ i,Tryz.prog.info? 34 = some i∧i.zero = some (.agg (ah.C (⟨0,0,0,0,0⟩:ah)).toArray):=jV (by kernel_rfl)
theorem inf_34:∃ i,Tryz.prog.info? 34 = some i∧i.size = 5:=bG (by kernel_rfl)
abbrev ki:Nat:=15
abbrev rj:Nat:=17
abbrev qd:Nat:=18
theorem build_34_0_1_2_3_4 (y0:Int) (y1:Int) (y2:Int) (y3:Int) (y4:Int):∀ w,(Instr.build 34 #[(0,(.int .u64 y0)),(1,(.int .u64 y1)),(2,(.int .u64 y2)),(3,(.int .u64 y3)),(4,(.int .u64 y4))]).run Tryz.prog w = .ok (.agg (ah.C (⟨y0,y1,y2,y3,y4⟩:ah)).toArray) w:=fun _=>by kernel_rfl
theorem en_18:aM Tryz.prog 18:=⟨_,Tryz.func18,by decide,rfl⟩
theorem en_17:aM Tryz.prog 17:=⟨_,Tryz.func17,by decide,rfl⟩
theorem en_15:aM Tryz.prog 15:=⟨_,Tryz.func15,by decide,rfl⟩
theorem en_14:aM Tryz.prog 14:=⟨_,Tryz.func14,by decide,rfl⟩
abbrev kZ:Nat:=3
abbrev t_api_Event:Nat:=56
abbrev t_api_Answer:Nat:=30
def iy.eqb (x y:iy):Bool:=((x.fEnv == y.fEnv) && ((x.fSlot == y.fSlot) && true))
def str_73df774b:ByteArray:=⟨#[48,49,50,51,52,53,54,55,56,57,97,98,99,100,101,102,103,104,105,106,107,108,109,110,111,112,113,114,115,116,117,118,119,120,121,122]⟩
def str_e9752c08:ByteArray:=⟨#[48,48,48,49,48,50,48,51,48,52,48,53,48,54,48,55,48,56,48,57,49,48,49,49,49,50,49,51,49,52,49,53,49,54,49,55,49,56,49,57,50,48,50,49,50,50,50,51,50,52,50,53,50,54,50,55,50,56,50,57,51,48,51,49,51,50,51,51,51,52,51,53,51,54,51,55,51,56,51,57,52,48,52,49,52,50,52,51,52,52,52,53,52,54,52,55,52,56,52,57,53,48,53,49,53,50,53,51,53,52,53,53,53,54,53,55,53,56,53,57,54,48,54,49,54,50,54,51,54,52,54,53,54,54,54,55,54,56,54,57,55,48,55,49,55,50,55,51,55,52,55,53,55,54,55,55,55,56,55,57,56,48,56,49,56,50,56,51,56,52,56,53,56,54,56,55,56,56,56,57,57,48,57,49,57,50,57,51,57,52,57,53,57,54,57,55,57,56,57,57]⟩
abbrev jj:Nat:=259
abbrev rl:Nat:=260
theorem inf_5:∃ i,Tryz.prog.info? 5 = some i∧i.size = 1:=bG (by kernel_rfl)
abbrev pu:Nat:=261
def R_Suint8_string (r:Sl × ByteArray):Value:=.tuple #[(sv r.1),(.string r.2)]
def R_Suint8 (r:Sl):Value:=(sv r)
abbrev qS:Nat:=262
theorem en_259:aM Tryz.prog 259:=⟨_,Tryz.func259,by decide,rfl⟩
theorem zero_326:∃ i,Tryz.prog.info? 326 = some i∧i.zero = some (.agg [.int .u8 0,.int .u8 0,.int .u8 0,.int .u8 0,.int .u8 0,.int .u8 0,.int .u8 0,.int .u8 0,.int .u8 0,.int .u8 0,.int .u8 0,.int .u8 0,.int .u8 0,.int .u8 0,.int .u8 0,.int .u8 0,.int .u8 0,.int .u8 0,.int .u8 0,.int .u8 0,.int .u8 0,.int .u8 0,.int .u8 0,.int .u8 0].toArray):=jV (by kernel_rfl)
abbrev wn:Nat:=326
theorem arr_326:Arr Tryz.prog 326 24 5 1:=⟨Tryz.underlying326,bG (by kernel_rfl)⟩
theorem en_261:aM Tryz.prog 261:=⟨_,Tryz.func261,by decide,rfl⟩
theorem en_260:aM Tryz.prog 260:=⟨_,Tryz.func260,by decide,rfl⟩
theorem en_262:aM Tryz.prog 262:=⟨_,Tryz.func262,by decide,rfl⟩
abbrev gH:Nat:=258
theorem en_258:aM Tryz.prog 258:=⟨_,Tryz.func258,by decide,rfl⟩
abbrev jD:Nat:=257
theorem en_257:aM Tryz.prog 257:=⟨_,Tryz.func257,by decide,rfl⟩
abbrev te:Nat:=256
theorem en_256:aM Tryz.prog 256:=⟨_,Tryz.func256,by decide,rfl⟩
abbrev iR:Nat:=253
abbrev tc:Nat:=254
abbrev nl:Nat:=255
abbrev t_api_Pick:Nat:=51
abbrev t_api_Call:Nat:=34
abbrev t_api_Line:Nat:=54
abbrev t_uint64:Nat:=22
abbrev sG:Nat:=114
abbrev fA:Nat:=118
abbrev dW:Nat:=161
abbrev t_api_Pte:Nat:=79
abbrev t_bool:Nat:=4
abbrev rv:Nat:=272
abbrev t_tlb_line:Nat:=169
end Go.Proofs.YtemoifebbhoinaaGreatDoor
namespace Go.Proofs.YtemoifebbhoinaaGreatDoor
open Go Mb
set_option linter.unusedVariables false
theorem el_Sint:El Tryz.prog dI kW 1 8 [.int .i64 0]:=uB Tryz.underlying39 (by kernel_rfl) rfl
theorem qu:El Tryz.prog eO t_api_Event 16 128 [.int .i64 0,.int .i64 0,.int .u64 0,.int .u64 0,.int .u64 0,.int .u64 0,.int .u64 0,.int .i64 0,.int .i64 0,.int .i64 0,.int .i64 0,.int .u64 0,.int .i64 0,.int .i64 0,.int .i64 0,.int .i64 0]:=uB Tryz.underlying42 (by kernel_rfl) rfl
theorem el_Sapi_Pick:El Tryz.prog nH t_api_Pick 10 80 [.int .i64 0,.int .i64 0,.int .i64 0,.int .u64 0,.int .u64 0,.int .u64 0,.int .u64 0,.int .u64 0,.int .i64 0,.int .i64 0]:=uB Tryz.underlying45 (by kernel_rfl) rfl
theorem el_Sapi_Call:El Tryz.prog t_Sapi_Call t_api_Call 5 40 [.int .u64 0,.int .u64 0,.int .u64 0,.int .u64 0,.int .u64 0]:=uB Tryz.underlying69 (by kernel_rfl) rfl
theorem el_Sapi_Line:El Tryz.prog qE t_api_Line 4 32 [.int .i64 0,.int .i64 0,.int .i64 0,.int .i64 0]:=uB Tryz.underlying76 (by kernel_rfl) rfl
theorem fY:El Tryz.prog be t_uint64 1 8 [.int .u64 0]:=uB Tryz.underlying93 (by kernel_rfl) rfl
theorem el_Sapi_Answer:El Tryz.prog mL t_api_Answer 2 16 [.int .i64 0,.int .u64 0]:=uB Tryz.underlying101 (by kernel_rfl) rfl
theorem el_SPtlb_Tlb:El Tryz.prog bP sG 1 8 [pv none]:=uB Tryz.underlying104 (by kernel_rfl) rfl
theorem el_SPkern_call:El Tryz.prog mM fA 1 8 [pv none]:=uB Tryz.underlying107 (by kernel_rfl) rfl
theorem wb:El Tryz.prog eP dW 1 8 [pv none]:=uB Tryz.underlying153 (by kernel_rfl) rfl
theorem uC:El Tryz.prog pT be 1 24 [sv (⟨none,0,0,none⟩:Sl)]:=uB Tryz.underlying163 (by kernel_rfl) rfl
theorem tB:El Tryz.prog hU rQ 2 16 [.int .i64 0,.int .i64 0]:=uB Tryz.underlying201 (by kernel_rfl) rfl
theorem el_S_8_api_Cap:El Tryz.prog t_S_8_api_Cap lj 32 256 [.int .i64 0,.int .i64 0,.int .i64 0,.int .i64 0,.int .i64 0,.int .i64 0,.int .i64 0,.int .i64 0,.int .i64 0,.int .i64 0,.int .i64 0,.int .i64 0,.int .i64 0,.int .i64 0,.int .i64 0,.int .i64 0,.int .i64 0,.int .i64 0,.int .i64 0,.int .i64 0,.int .i64 0,.int .i64 0,.int .i64 0,.int .i64 0,.int .i64 0,.int .i64 0,.int .i64 0,.int .i64 0,.int .i64 0,.int .i64 0,.int .i64 0,.int .i64 0]:=uB Tryz.underlying206 (by kernel_rfl) rfl
theorem el_Sapi_Pte:El Tryz.prog pS t_api_Pte 3 24 [.int .i64 0,.int .i64 0,.int .i64 0]:=uB Tryz.underlying240 (by kernel_rfl) rfl
theorem enter_hist_Order_c1:aM Tryz.prog nc:=⟨_,Tryz.func93,by decide,rfl⟩
theorem enter_hist_Order_c2:aM Tryz.prog rm:=⟨_,Tryz.func95,by decide,rfl⟩
theorem uV:aM Tryz.prog lH:=⟨_,Tryz.func189,by decide,rfl⟩
theorem wa:aM Tryz.prog gN:=⟨_,Tryz.func203,by decide,rfl⟩
theorem enter_hist_Over_c1:aM Tryz.prog th:=⟨_,Tryz.func221,by decide,rfl⟩
theorem mp_map_int_bool:Mp Tryz.prog jx kW t_bool (.bool false):=⟨Tryz.underlying61,⟨_,Tryz.underlying3⟩,jV (by kernel_rfl)⟩
theorem mp_map_int_int:Mp Tryz.prog hO kW kW (.int .i64 0):=⟨Tryz.underlying95,⟨_,Tryz.underlying3⟩,jV (by kernel_rfl)⟩
theorem agn_8_api_Pte:Ag Tryz.prog tO 24:=⟨⟨_,Tryz.underlying80,rfl⟩,bG (by kernel_rfl)⟩
theorem arn_8_api_Pte:Tryz.prog.underlying tO = some (.array 8 t_api_Pte):=Tryz.underlying80
theorem age_8_api_Pte:Ag Tryz.prog t_api_Pte 3:=⟨⟨_,Tryz.underlying79,rfl⟩,bG (by kernel_rfl)⟩
theorem arn_2_tlb_line:Tryz.prog.underlying t_2_tlb_line = some (.array 2 t_tlb_line):=Tryz.underlying170
theorem age_2_tlb_line:Ag Tryz.prog t_tlb_line 5:=⟨⟨_,Tryz.underlying169,rfl⟩,bG (by kernel_rfl)⟩
theorem agn_8_api_Cap:Ag Tryz.prog lj 32:=⟨⟨_,Tryz.underlying205,rfl⟩,bG (by kernel_rfl)⟩
theorem arn_8_api_Cap:Tryz.prog.underlying lj = some (.array 8 fP):=Tryz.underlying205
theorem age_8_api_Cap:Ag Tryz.prog fP 4:=⟨⟨_,Tryz.underlying36,rfl⟩,bG (by kernel_rfl)⟩
end Go.Proofs.YtemoifebbhoinaaGreatDoor
namespace Go.Proofs.YtemoifebbhoinaaGreatDoor
open Go Mb
set_option linter.unusedVariables false
def sh_word_Kind (a0:ah) (K:(Int × Bool)→Hp→Prop):Hp→Prop:=br (((decide (a0.e0 ≥ 1)) && (decide (a0.e0 ≤ 10))) || ((decide (a0.e0 ≥ 20)) && (decide (a0.e0 ≤ 23)))) ( K ((IntKind.i64.wrap a0.e0),true)) ( K (0,false))
theorem sim_word_Kind (a0:ah) {K:(Int × Bool)→Hp→Prop} {h:Hp} (H:sh_word_Kind a0 K h):Ct Tryz.prog n_word_Kind #[(.agg (ah.C a0).toArray)] h fun v h'=>∃ r,v = bL r∧K r h':=aw [(.agg (ah.C a0).toArray)] Tryz.func63 c c c fun _=>M<|aa<|cQ (l:=ah.C a0) c c c fun b1=>p (au c)<|O c<|al<|M<|p (bz de c c (by decide))<|bi (bf (k:=0) cz c c c) c<|O c<|M<|J c<|p (jN c c)<|J c<|V c c (az _) (fun g1=>wv<|ai c)<|V c c (az _) (fun g2=>wv<|v_le (aD c g2) c)<|p (bS c c)<|J c<|V c c (aJ _) (fun g3=>wv<|ai c)<|V c c (aJ _) (fun g4=>wv<|jN (aD c g4) c)<|V c c (aJ _) (fun g5=>wv<|ai<|aD c g5)<|V c c (ru _ _) (fun g6=>wv<|ai c)<|V c c (ru _ _) (fun g7=>wv<|v_le (aD c g7) c)<|V c c (aJ _) (fun g8=>wv<|bS (aD c g8)<|aN c<|xl g8)<|p (dm c c)<|ad<|av c H (fun k9 H10=>M<|J c<|p (dV ⟨_,Tryz.underlying22⟩ Tryz.underlying3 c)<|p (au c)<|O c<|aj<|bv (bN c (bY c)<|bY c) ⟨((IntKind.i64.wrap a0.e0),true),c,H10⟩) fun k9 H10=>ao<|M<|p (au c)<|O c<|aj<|bv (bN c (bY c)<|bY c) ⟨(0,false),c,H10⟩
def aA (a0:ah):Int × Bool:=(bif (((decide (a0.e0 ≥ 1)) && (decide (a0.e0 ≤ 10))) || ((decide (a0.e0 ≥ 20)) && (decide (a0.e0 ≤ 23)))) then (((IntKind.i64.wrap a0.e0),true)) else ((0,false)))
theorem pr_word_Kind (a0:ah) {K:(Int × Bool)→Hp→Prop} {h:Hp} (k:K (aA a0) h):sh_word_Kind a0 K h:=(kr (K:=K) (fun k=>k) (fun k=>k)) k
theorem kq (a0:ah) (h:Hp):Ct Tryz.prog n_word_Kind #[(.agg (ah.C a0).toArray)] h fun v h'=>∃ r,v = bL r∧(r = aA a0∧h' = h):=sim_word_Kind a0 (pr_word_Kind a0 ⟨rfl,rfl⟩)
def sh_word_User (a0:Int) (K:Bool→Hp→Prop):Hp→Prop:=K ((decide (a0 ≥ 20)) && (decide (a0 ≤ 23)))
theorem sim_word_User (a0:Int) {K:Bool→Hp→Prop} {h:Hp} (H:sh_word_User a0 K h):Ct Tryz.prog n_word_User #[(.int .i64 a0)] h fun v h'=>∃ r,v = aC r∧K r h':=aw [(.int .i64 a0)] Tryz.func64 c c c fun _=>M<|O c<|M<|J c<|p (jN c c)<|J c<|V c c (az _) (fun g1=>wv<|ai c)<|V c c (az _) (fun g2=>wv<|v_le (aD c g2) c)<|p (bS c c)<|O c<|aj<|Y ⟨((decide (a0 ≥ 20)) && (decide (a0 ≤ 23))),c,H⟩
def bT (a0:Int):Bool:=(((decide (a0 ≥ 20)) && (decide (a0 ≤ 23))))
theorem pr_word_User (a0:Int) {K:Bool→Hp→Prop} {h:Hp} (k:K (bT a0) h):sh_word_User a0 K h:=(fun k=>k) k
theorem sn (a0:Int) (h:Hp):Ct Tryz.prog n_word_User #[(.int .i64 a0)] h fun v h'=>∃ r,v = aC r∧(r = bT a0∧h' = h):=sim_word_User a0 (pr_word_User a0 ⟨rfl,rfl⟩)
def sh_word_Rights (a0:Int) (K:(Int × Bool)→Hp→Prop):Hp→Prop:=br ((decide (a0 < 1)) || (decide (a0 > 3))) ( K (0,false)) ( K ((IntKind.i64.wrap a0),true))
theorem sim_word_Rights (a0:Int) {K:(Int × Bool)→Hp→Prop} {h:Hp} (H:sh_word_Rights a0 K h):Ct Tryz.prog n_word_Rights #[(.int .u64 a0)] h fun v h'=>∃ r,v = bL r∧K r h':=aw [(.int .u64 a0)] Tryz.func193 c c c fun _=>M<|p (au c)<|O c<|al<|M<|J c<|p (cC c c)<|J c<|V c c (aJ _) (fun g1=>wv<|ai c)<|V c c (aJ _) (fun g2=>wv<|qA (aD c g2) c)<|p (dm c c)<|ad<|av c H (fun k3 H4=>M<|p (au c)<|O c<|aj<|bv (bN c (bY c)<|bY c) ⟨(0,false),c,H4⟩) fun k3 H4=>ao<|M<|J c<|p (dV ⟨_,Tryz.underlying22⟩ Tryz.underlying3 c)<|p (au c)<|O c<|aj<|bv (bN c (bY c)<|bY c) ⟨((IntKind.i64.wrap a0),true),c,H4⟩
def ik (a0:Int):Int × Bool:=(bif ((decide (a0 < 1)) || (decide (a0 > 3))) then ((0,false)) else (((IntKind.i64.wrap a0),true)))
theorem pr_word_Rights (a0:Int) {K:(Int × Bool)→Hp→Prop} {h:Hp} (k:K (ik a0) h):sh_word_Rights a0 K h:=(kr (K:=K) (fun k=>k) (fun k=>k)) k
theorem ct_word_Rights (a0:Int) (h:Hp):Ct Tryz.prog n_word_Rights #[(.int .u64 a0)] h fun v h'=>∃ r,v = bL r∧(r = ik a0∧h' = h):=sim_word_Rights a0 (pr_word_Rights a0 ⟨rfl,rfl⟩)
def sh_table_is (a0:Int) (K:Bool→Hp→Prop):Hp→Prop:=K ((decide (a0 ≥ 0)) && (decide (a0 < 8)))
theorem sim_table_is (a0:Int) {K:Bool→Hp→Prop} {h:Hp} (H:sh_table_is a0 K h):Ct Tryz.prog n_table_is #[(.int .i64 a0)] h fun v h'=>∃ r,v = aC r∧K r h':=aw [(.int .i64 a0)] Tryz.func156 c c c fun _=>M<|O c<|M<|J c<|p (jN c c)<|J c<|V c c (az _) (fun g1=>wv<|ai c)<|V c c (az _) (fun g2=>wv<|cC (aD c g2) c)<|p (bS c c)<|O c<|aj<|Y ⟨((decide (a0 ≥ 0)) && (decide (a0 < 8))),c,H⟩
def bt (a0:Int):Bool:=(((decide (a0 ≥ 0)) && (decide (a0 < 8))))
theorem pr_table_is (a0:Int) {K:Bool→Hp→Prop} {h:Hp} (k:K (bt a0) h):sh_table_is a0 K h:=(fun k=>k) k
theorem uD (a0:Int) (h:Hp):Ct Tryz.prog n_table_is #[(.int .i64 a0)] h fun v h'=>∃ r,v = aC r∧(r = bt a0∧h' = h):=sim_table_is a0 (pr_table_is a0 ⟨rfl,rfl⟩)
def sh_pte_May (a0:Int) (K:Bool→Hp→Prop):Hp→Prop:=K ((decide (a0 ≥ 1)) && (decide (a0 ≤ 3)))
theorem sim_pte_May (a0:Int) {K:Bool→Hp→Prop} {h:Hp} (H:sh_pte_May a0 K h):Ct Tryz.prog n_pte_May #[(.int .i64 a0)] h fun v h'=>∃ r,v = aC r∧K r h':=aw [(.int .i64 a0)] Tryz.func166 c c c fun _=>M<|O c<|M<|J c<|p (jN c c)<|J c<|V c c (az _) (fun g1=>wv<|ai c)<|V c c (az _) (fun g2=>wv<|v_le (aD c g2) c)<|p (bS c c)<|O c<|aj<|Y ⟨((decide (a0 ≥ 1)) && (decide (a0 ≤ 3))),c,H⟩
def cg (a0:Int):Bool:=(((decide (a0 ≥ 1)) && (decide (a0 ≤ 3))))
theorem pr_pte_May (a0:Int) {K:Bool→Hp→Prop} {h:Hp} (k:K (cg a0) h):sh_pte_May a0 K h:=(fun k=>k) k
theorem qj (a0:Int) (h:Hp):Ct Tryz.prog n_pte_May #[(.int .i64 a0)] h fun v h'=>∃ r,v = aC r∧(r = cg a0∧h' = h):=sim_pte_May a0 (pr_pte_May a0 ⟨rfl,rfl⟩)
def sh_pte_Within (a0:Int) (a1:Int) (K:Bool→Hp→Prop):Hp→Prop:=K (((cg a0) && (cg a1)) && ((iandnot .i64 a0 a1) == 0))
theorem sim_pte_Within (a0:Int) (a1:Int) {K:Bool→Hp→Prop} {h:Hp} (H:sh_pte_Within a0 a1 K h):Ct Tryz.prog n_pte_Within #[(.int .i64 a0),(.int .i64 a1)] h fun v h'=>∃ r,v = aC r∧K r h':=aw [(.int .i64 a0),(.int .i64 a1)] Tryz.func116 c c c fun _=>M<|O c<|M<|J c<|aa<|cN (vs:=[(.int .i64 a0)]) (bu<|qj a0 _) en_166 c c<|J c<|V c c (az _) (fun g1=>wv<|ai c)<|db (vs:=[(.int .i64 a1)]) c c c (az _) (fun g2=>bu<|qj a1 _) en_166 (fun g2=>aT (aD c g2) bQ) c<|p (bS c c)<|J c<|V c c (az _) (fun g3=>wv<|ai c)<|V c c (az _) (fun g4=>wv<|ai c)<|V c c (az _) (fun g5=>wv<|v_iandnot (aD c g5)<|aD c g5)<|V c c (az _) (fun g6=>wv<|bO (aD c g6) c)<|p (bS c c)<|O c<|aj<|Y ⟨(((cg a0) && (cg a1)) && ((iandnot .i64 a0 a1) == 0)),c,H⟩
def aQ (a0:Int) (a1:Int):Bool:=((((cg a0) && (cg a1)) && ((iandnot .i64 a0 a1) == 0)))
theorem pr_pte_Within (a0:Int) (a1:Int) {K:Bool→Hp→Prop} {h:Hp} (k:K (aQ a0 a1) h):sh_pte_Within a0 a1 K h:=(fun k=>k) k
theorem df (a0:Int) (a1:Int) (h:Hp):Ct Tryz.prog n_pte_Within #[(.int .i64 a0),(.int .i64 a1)] h fun v h'=>∃ r,v = aC r∧(r = aQ a0 a1∧h' = h):=sim_pte_Within a0 a1 (pr_pte_Within a0 a1 ⟨rfl,rfl⟩)
def sh_pte_Put (a0:am) (K:(Int × Bool)→Hp→Prop):Hp→Prop:=br (am.eqb a0 (⟨0,0,0⟩:am)) ( K (0,true)) ( br (((((decide (a0.fFrame < 0)) || (decide (a0.fFrame ≥ 16))) || (decide (a0.fSlot < 0))) || (decide (a0.fSlot ≥ 8))) || (!(cg a0.fRights))) ( K (0,false)) ( K ((IntKind.u64.wrap (IntKind.i64.wrap ((IntKind.i64.wrap ((IntKind.i64.wrap (32768 + (IntKind.i64.wrap (256 * a0.fFrame)))) + (IntKind.i64.wrap (16 * a0.fSlot)))) + a0.fRights))),true)))
theorem sim_pte_Put (a0:am) {K:(Int × Bool)→Hp→Prop} {h:Hp} (H:sh_pte_Put a0 K h):Ct Tryz.prog n_pte_Put #[(.agg (am.C a0).toArray)] h fun v h'=>∃ r,v = bK r∧K r h':=aw [(.agg (am.C a0).toArray)] Tryz.func155 c c c fun _=>M<|aa<|cQ (l:=am.C a0) c c c fun b1=>p (au c)<|O c<|al<|M<|bi (bC (k:=0) fH c c c c) c<|p (aY (vs:=[]) c mU)<|p (v_eqA eqg_79 (eqr_79 9998 _ _) c c)<|ad<|av c H (fun k1 H2=>M<|p (au c)<|O c<|aj<|bv (bN c (bY c)<|bY c) ⟨(0,true),c,H2⟩) fun k1 H2=>ao<|al<|M<|p (ae qV c)<|bi (bf (k:=0) bb c c c) c<|p (cC c c)<|J c<|V c c (aJ _) (fun g3=>wv<|ae qV c)<|V c c (aJ _) (fun g4=>cv<|bf (k:=0) bb (aD c g4) c c)<|V c c (aJ _) (fun g5=>wv<|jN (aD c g5) c)<|p (dm c c)<|J c<|V c c (aJ _) (fun g6=>wv<|ae tn c)<|V c c (aJ _) (fun g7=>cv<|bf (k:=0) bb (aD c g7) c c)<|V c c (aJ _) (fun g8=>wv<|cC (aD c g8) c)<|p (dm c c)<|J c<|V c c (aJ _) (fun g9=>wv<|ae tn c)<|V c c (aJ _) (fun g10=>cv<|bf (k:=0) bb (aD c g10) c c)<|V c c (aJ _) (fun g11=>wv<|jN (aD c g11) c)<|p (dm c c)<|J c<|V c c (aJ _) (fun g12=>wv<|ae eL c)<|V c c (aJ _) (fun g13=>cv<|bf (k:=0) bb (aD c g13) c c)<|db (vs:=[(.int .i64 a0.fRights)]) c c c (aJ _) (fun g14=>bu<|qj a0.fRights _) en_166 (fun g14=>aT (aD c g14) bQ) c<|V c c (aJ _) (fun g15=>wv<|cq<|aD c g15)<|p (dm c c)<|ad<|av c H2 (fun k16 H17=>M<|p (au c)<|O c<|aj<|bv (bN c (bY c)<|bY c) ⟨(0,false),c,H17⟩) fun k16 H17=>ao<|M<|p (ae qV c)<|bi (bf (k:=0) bb c c c) c<|p (v_mul c c)<|p (bw c c)<|p (ae tn c)<|bi (bf (k:=0) bb c c c) c<|p (v_mul c c)<|p (bw c c)<|p (ae eL c)<|bi (bf (k:=0) bb c c c) c<|p (bw c c)<|p (dV ⟨_,Tryz.underlying3⟩ Tryz.underlying22 c)<|p (au c)<|O c<|aj<|bv (bN c (bY c)<|bY c) ⟨((IntKind.u64.wrap (IntKind.i64.wrap ((IntKind.i64.wrap ((IntKind.i64.wrap (32768 + (IntKind.i64.wrap (256 * a0.fFrame)))) + (IntKind.i64.wrap (16 * a0.fSlot)))) + a0.fRights))),true),c,H17⟩
def eV (a0:am):Int × Bool:=(bif (am.eqb a0 (⟨0,0,0⟩:am)) then ((0,true)) else (bif (((((decide (a0.fFrame < 0)) || (decide (a0.fFrame ≥ 16))) || (decide (a0.fSlot < 0))) || (decide (a0.fSlot ≥ 8))) || (!(cg a0.fRights))) then ((0,false)) else (((IntKind.u64.wrap (IntKind.i64.wrap ((IntKind.i64.wrap ((IntKind.i64.wrap (32768 + (IntKind.i64.wrap (256 * a0.fFrame)))) + (IntKind.i64.wrap (16 * a0.fSlot)))) + a0.fRights))),true))))
theorem pr_pte_Put (a0:am) {K:(Int × Bool)→Hp→Prop} {h:Hp} (k:K (eV a0) h):sh_pte_Put a0 K h:=(kr (K:=K) (fun k=>k) (kr (K:=K) (fun k=>k) (fun k=>k))) k
theorem ct_pte_Put (a0:am) (h:Hp):Ct Tryz.prog n_pte_Put #[(.agg (am.C a0).toArray)] h fun v h'=>∃ r,v = bK r∧(r = eV a0∧h' = h):=sim_pte_Put a0 (pr_pte_Put a0 ⟨rfl,rfl⟩)
def sh_tlb_empty (K:an→Hp→Prop):Hp→Prop:=K (⟨(-1),0,0,0⟩:an)
theorem sim_tlb_empty {K:an→Hp→Prop} {h:Hp} (H:sh_tlb_empty K h):Ct Tryz.prog n_tlb_empty #[] h fun v h'=>∃ r,v = R_api_Line r∧K r h':=aw [] Tryz.func152 c c c fun _=>M<|aa<|aI (l:=an.C (⟨0,0,0,0⟩:an)) kV c c fun b0=>ad<|M<|p (aY c<|build_54_0 (-1))<|aa<|aO (k:=0) (vs:=an.C (⟨(-1),0,0,0⟩:an)) fL c c c c c c c<|ad<|aj<|bv (mP c<|bD (k:=0) c ia c c) ⟨(⟨(-1),0,0,0⟩:an),c,H⟩
def ge:an:=((⟨(-1),0,0,0⟩:an))
theorem pr_tlb_empty {K:an→Hp→Prop} {h:Hp} (k:K (ge) h):sh_tlb_empty K h:=(fun k=>k) k
theorem ct_tlb_empty (h:Hp):Ct Tryz.prog n_tlb_empty #[] h fun v h'=>∃ r,v = R_api_Line r∧(r = ge∧h' = h):=sim_tlb_empty (pr_tlb_empty ⟨rfl,rfl⟩)
def sh_pte_Lets (a0:Int) (a1:Int) (K:Bool→Hp→Prop):Hp→Prop:=br (a1 == 20) ( K (aQ 1 a0)) ( br (a1 == 21) ( K (aQ 2 a0)) ( br (a1 == 22) ( K (aQ 3 a0)) ( br (a1 == 23) ( K (aQ 3 a0)) ( K (aQ 0 a0)))))
theorem sim_pte_Lets (a0:Int) (a1:Int) {K:Bool→Hp→Prop} {h:Hp} (H:sh_pte_Lets a0 a1 K h):Ct Tryz.prog n_pte_Lets #[(.int .i64 a0),(.int .i64 a1)] h fun v h'=>∃ r,v = aC r∧K r h':=aw [(.int .i64 a0),(.int .i64 a1)] Tryz.func158 c c c fun _=>M<|O c<|M<|O c<|al<|M<|J c<|ad<|ay<|M<|p (bO c c)<|O c<|av c H (fun k1 H2=>ar<|O c<|M<|J c<|J c<|aa<|cN (vs:=[(.int .i64 1),(.int .i64 a0)]) (bu<|df 1 a0 _) mC c c<|O c<|aj<|Y ⟨aQ 1 a0,c,H2⟩) fun k1 H2=>M<|p (bO c c)<|O c<|av c H2 (fun k3 H4=>ar<|O c<|M<|J c<|J c<|aa<|cN (vs:=[(.int .i64 2),(.int .i64 a0)]) (bu<|df 2 a0 _) mC c c<|O c<|aj<|Y ⟨aQ 2 a0,c,H4⟩) fun k3 H4=>al<|M<|p (bO c c)<|O c<|av c H4 (fun k5 H6=>ao<|mB c k5<|ar<|O c<|M<|J c<|J c<|aa<|cN (vs:=[(.int .i64 3),(.int .i64 a0)]) (bu<|df 3 a0 _) mC c c<|O c<|aj<|Y ⟨aQ 3 a0,c,H6⟩) fun k5 H6=>ar<|p (bO c c)<|O c<|av c H6 (fun k7 H8=>ar<|O c<|M<|J c<|J c<|aa<|cN (vs:=[(.int .i64 3),(.int .i64 a0)]) (bu<|df 3 a0 _) mC c c<|O c<|aj<|Y ⟨aQ 3 a0,c,H8⟩) fun k7 H8=>ao<|M<|J c<|J c<|aa<|cN (vs:=[(.int .i64 0),(.int .i64 a0)]) (bu<|df 0 a0 _) mC c c<|O c<|aj<|Y ⟨aQ 0 a0,c,H8⟩
def cA (a0:Int) (a1:Int):Bool:=(bif (a1 == 20) then ((aQ 1 a0)) else (bif (a1 == 21) then ((aQ 2 a0)) else (bif (a1 == 22) then ((aQ 3 a0)) else (bif (a1 == 23) then ((aQ 3 a0)) else ((aQ 0 a0))))))
theorem pr_pte_Lets (a0:Int) (a1:Int) {K:Bool→Hp→Prop} {h:Hp} (k:K (cA a0 a1) h):sh_pte_Lets a0 a1 K h:=(kr (K:=K) (fun k=>k) (kr (K:=K) (fun k=>k) (kr (K:=K) (fun k=>k) (kr (K:=K) (fun k=>k) (fun k=>k))))) k
theorem jT (a0:Int) (a1:Int) (h:Hp):Ct Tryz.prog n_pte_Lets #[(.int .i64 a0),(.int .i64 a1)] h fun v h'=>∃ r,v = aC r∧(r = cA a0 a1∧h' = h):=sim_pte_Lets a0 a1 (pr_pte_Lets a0 a1 ⟨rfl,rfl⟩)
def rL (a0:Int) (K:Bool→Hp→Prop):Hp→Prop:=K (a0 != a0)
theorem sim_cmp_isNaN_uint64 (a0:Int) {K:Bool→Hp→Prop} {h:Hp} (H:rL a0 K h):Ct Tryz.prog ti #[(.int .u64 a0)] h fun v h'=>∃ r,v = aC r∧K r h':=aw [(.int .u64 a0)] Tryz.func218 c c c fun _=>M<|O c<|M<|J c<|J c<|p (nh c c)<|O c<|aj<|Y ⟨(a0 != a0),c,H⟩
def dv (a0:Int):Bool:=((a0 != a0))
theorem pr_cmp_isNaN_uint64 (a0:Int) {K:Bool→Hp→Prop} {h:Hp} (k:K (dv a0) h):rL a0 K h:=(fun k=>k) k
theorem rO (a0:Int) (h:Hp):Ct Tryz.prog ti #[(.int .u64 a0)] h fun v h'=>∃ r,v = aC r∧(r = dv a0∧h' = h):=sim_cmp_isNaN_uint64 a0 (pr_cmp_isNaN_uint64 a0 ⟨rfl,rfl⟩)
def sU (a0:Int) (a1:Int) (K:Bool→Hp→Prop):Hp→Prop:=K (((dv a0) && (!(dv a1))) || (decide (a0 < a1)))
theorem sim_cmp_Less_uint64 (a0:Int) (a1:Int) {K:Bool→Hp→Prop} {h:Hp} (H:sU a0 a1 K h):Ct Tryz.prog ux #[(.int .u64 a0),(.int .u64 a1)] h fun v h'=>∃ r,v = aC r∧K r h':=aw [(.int .u64 a0),(.int .u64 a1)] Tryz.func195 c c c fun _=>M<|O c<|M<|J c<|aa<|cN (vs:=[(.int .u64 a0)]) (bu<|rO a0 _) en_218 c c<|J c<|V c c (az _) (fun g1=>wv<|ai c)<|db (vs:=[(.int .u64 a1)]) c c c (az _) (fun g2=>bu<|rO a1 _) en_218 (fun g2=>aT (aD c g2) bQ) c<|V c c (az _) (fun g3=>wv<|cq<|aD c g3)<|p (bS c c)<|J c<|V c c (aJ _) (fun g4=>wv<|ai c)<|V c c (aJ _) (fun g5=>wv<|ai c)<|V c c (aJ _) (fun g6=>wv<|cC (aD c g6)<|aD c g6)<|p (dm c c)<|O c<|aj<|Y ⟨(((dv a0) && (!(dv a1))) || (decide (a0 < a1))),c,H⟩
def il (a0:Int) (a1:Int):Bool:=((((dv a0) && (!(dv a1))) || (decide (a0 < a1))))
theorem pr_cmp_Less_uint64 (a0:Int) (a1:Int) {K:Bool→Hp→Prop} {h:Hp} (k:K (il a0 a1) h):sU a0 a1 K h:=(fun k=>k) k
theorem ct_cmp_Less_uint64 (a0:Int) (a1:Int) (h:Hp):Ct Tryz.prog ux #[(.int .u64 a0),(.int .u64 a1)] h fun v h'=>∃ r,v = aC r∧(r = il a0 a1∧h' = h):=sim_cmp_Less_uint64 a0 a1 (pr_cmp_Less_uint64 a0 a1 ⟨rfl,rfl⟩)
def oA (a0:Int) (K:Bool→Hp→Prop):Hp→Prop:=K (a0 != a0)
theorem vg (a0:Int) {K:Bool→Hp→Prop} {h:Hp} (H:oA a0 K h):Ct Tryz.prog pK #[(.int .u64 a0)] h fun v h'=>∃ r,v = aC r∧K r h':=aw [(.int .u64 a0)] Tryz.func196 c c c fun _=>M<|O c<|M<|J c<|J c<|p (nh c c)<|O c<|aj<|Y ⟨(a0 != a0),c,H⟩
def dF (a0:Int):Bool:=((a0 != a0))
theorem wT (a0:Int) {K:Bool→Hp→Prop} {h:Hp} (k:K (dF a0) h):oA a0 K h:=(fun k=>k) k
theorem oZ (a0:Int) (h:Hp):Ct Tryz.prog pK #[(.int .u64 a0)] h fun v h'=>∃ r,v = aC r∧(r = dF a0∧h' = h):=vg a0 (wT a0 ⟨rfl,rfl⟩)
def sh_plain_fails (a0:Int) (K:(ab × Bool)→Hp→Prop):Hp→Prop:=K ((⟨a0,0⟩:ab),true)
theorem sim_plain_fails (a0:Int) {K:(ab × Bool)→Hp→Prop} {h:Hp} (H:sh_plain_fails a0 K h):Ct Tryz.prog n_plain_fails #[(.int .i64 a0)] h fun v h'=>∃ r,v = aZ r∧K r h':=aw [(.int .i64 a0)] Tryz.func123 c c c fun _=>M<|aa<|aI (l:=ab.C (⟨0,0⟩:ab)) cO c c fun b2=>O c<|M<|J c<|p (aY c<|jn a0)<|aa<|aO (k:=0) (vs:=ab.C (⟨a0,0⟩:ab)) bI c c c c c c c<|O c<|aj<|bv (bN c (bD (k:=0) c cH c c)<|bY c) ⟨((⟨a0,0⟩:ab),true),c,H⟩
def aP (a0:Int):ab × Bool:=(((⟨a0,0⟩:ab),true))
theorem pr_plain_fails (a0:Int) {K:(ab × Bool)→Hp→Prop} {h:Hp} (k:K (aP a0) h):sh_plain_fails a0 K h:=(fun k=>k) k
theorem dL (a0:Int) (h:Hp):Ct Tryz.prog n_plain_fails #[(.int .i64 a0)] h fun v h'=>∃ r,v = aZ r∧(r = aP a0∧h' = h):=sim_plain_fails a0 (pr_plain_fails a0 ⟨rfl,rfl⟩)
def sh_pred_Holds (a0:Int) (a1:Int) (a2:Int) (K:Bool→Hp→Prop):Hp→Prop:=br (a0 == 1) ( K (a1 == a2)) ( br (a0 == 2) ( K (a1 != a2)) ( br (a0 == 3) ( K (decide (a1 < a2))) ( br (a0 == 4) ( K (decide (a1 > a2))) ( K false))))
theorem sim_pred_Holds (a0:Int) (a1:Int) (a2:Int) {K:Bool→Hp→Prop} {h:Hp} (H:sh_pred_Holds a0 a1 a2 K h):Ct Tryz.prog n_pred_Holds #[(.int .i64 a0),(.int .u64 a1),(.int .u64 a2)] h fun v h'=>∃ r,v = aC r∧K r h':=aw [(.int .i64 a0),(.int .u64 a1),(.int .u64 a2)] Tryz.func148 c c c fun _=>M<|O c<|al<|M<|J c<|ad<|ay<|M<|p (bO c c)<|O c<|av c H (fun k1 H2=>M<|J c<|J c<|p (bO c c)<|O c<|aj<|Y ⟨(a1 == a2),c,H2⟩) fun k1 H2=>M<|p (bO c c)<|O c<|av c H2 (fun k3 H4=>M<|J c<|J c<|p (nh c c)<|O c<|aj<|Y ⟨(a1 != a2),c,H4⟩) fun k3 H4=>M<|p (bO c c)<|O c<|av c H4 (fun k5 H6=>M<|J c<|J c<|p (cC c c)<|O c<|aj<|Y ⟨decide (a1 < a2),c,H6⟩) fun k5 H6=>M<|p (bO c c)<|O c<|av c H6 (fun k7 H8=>M<|J c<|J c<|p (qA c c)<|O c<|aj<|Y ⟨decide (a1 > a2),c,H8⟩) fun k7 H8=>ao<|M<|O c<|aj<|Y ⟨false,c,H8⟩
def mQ (a0:Int) (a1:Int) (a2:Int):Bool:=(bif (a0 == 1) then ((a1 == a2)) else (bif (a0 == 2) then ((a1 != a2)) else (bif (a0 == 3) then ((decide (a1 < a2))) else (bif (a0 == 4) then ((decide (a1 > a2))) else (false)))))
theorem pr_pred_Holds (a0:Int) (a1:Int) (a2:Int) {K:Bool→Hp→Prop} {h:Hp} (k:K (mQ a0 a1 a2) h):sh_pred_Holds a0 a1 a2 K h:=(kr (K:=K) (fun k=>k) (kr (K:=K) (fun k=>k) (kr (K:=K) (fun k=>k) (kr (K:=K) (fun k=>k) (fun k=>k))))) k
theorem uX (a0:Int) (a1:Int) (a2:Int) (h:Hp):Ct Tryz.prog n_pred_Holds #[(.int .i64 a0),(.int .u64 a1),(.int .u64 a2)] h fun v h'=>∃ r,v = aC r∧(r = mQ a0 a1 a2∧h' = h):=sim_pred_Holds a0 a1 a2 (pr_pred_Holds a0 a1 a2 ⟨rfl,rfl⟩)
def sh_hist_one (a0:aE) (a1:aB) (a2:Int) (K:Bool→Hp→Prop):Hp→Prop:=br (((((decide (a0.fCore < 0)) || (decide (a0.fCore ≥ a1.fCores))) || (decide (a0.fEnv < 0))) || (decide (a0.fEnv ≥ a1.fEnvs))) || (decide (a0.fBegin ≤ a2))) ( K false) ( br (a0.fEffect == 0) ( K (a0.fEnd == 0)) ( K ((decide (a0.fEffect ≥ a0.fBegin)) && ((a0.fEnd == 0) || (decide (a0.fEnd ≥ a0.fEffect))))))
theorem sim_hist_one (a0:aE) (a1:aB) (a2:Int) {K:Bool→Hp→Prop} {h:Hp} (H:sh_hist_one a0 a1 a2 K h):Ct Tryz.prog n_hist_one #[(.agg (aE.C a0).toArray),(.agg (aB.C a1).toArray),(.int .i64 a2)] h fun v h'=>∃ r,v = aC r∧K r h':=aw [(.agg (aE.C a0).toArray),(.agg (aB.C a1).toArray),(.int .i64 a2)] Tryz.func61 c c c fun _=>M<|aa<|cQ (l:=aE.C a0) c c c fun b3=>aa<|cQ (l:=aB.C a1) c c c fun b4=>O c<|al<|ay<|M<|p (ae tt c)<|bi (bf (k:=1) bb c c c) c<|p (cC c c)<|J c<|V c c (aJ _) (fun g1=>wv<|ae tt c)<|V c c (aJ _) (fun g2=>cv<|bf (k:=1) bb (aD c g2) c c)<|V c c (aJ _) (fun g3=>wv<|ae oY c)<|V c c (aJ _) (fun g4=>cv<|bf (k:=0) bb (aD c g4) c c)<|V c c (aJ _) (fun g5=>wv<|jN (aD c g5)<|aD c g5)<|p (dm c c)<|J c<|V c c (aJ _) (fun g6=>wv<|ae oX c)<|V c c (aJ _) (fun g7=>cv<|bf (k:=1) bb (aD c g7) c c)<|V c c (aJ _) (fun g8=>wv<|cC (aD c g8) c)<|p (dm c c)<|J c<|V c c (aJ _) (fun g9=>wv<|ae oX c)<|V c c (aJ _) (fun g10=>cv<|bf (k:=1) bb (aD c g10) c c)<|V c c (aJ _) (fun g11=>wv<|ae mT c)<|V c c (aJ _) (fun g12=>cv<|bf (k:=0) bb (aD c g12) c c)<|V c c (aJ _) (fun g13=>wv<|jN (aD c g13)<|aD c g13)<|p (dm c c)<|J c<|V c c (aJ _) (fun g14=>wv<|ae tq c)<|V c c (aJ _) (fun g15=>cv<|bf (k:=1) bb (aD c g15) c c)<|V c c (aJ _) (fun g16=>wv<|ai c)<|V c c (aJ _) (fun g17=>wv<|v_le (aD c g17)<|aD c g17)<|p (dm c c)<|O c<|av c H (fun k18 H19=>M<|O c<|aj<|Y ⟨false,c,H19⟩) fun k18 H19=>M<|p (ae ja c)<|bi (bf (k:=1) bb c c c) c<|p (bO c c)<|O c<|av c H19 (fun k20 H21=>M<|p (ae qW c)<|bi (bf (k:=1) bb c c c) c<|p (bO c c)<|O c<|aj<|Y ⟨(a0.fEnd == 0),c,H21⟩) fun k20 H21=>ao<|M<|p (ae ja c)<|bi (bf (k:=1) bb c c c) c<|p (ae tq c)<|bi (bf (k:=1) bb c c c) c<|p (jN c c)<|J c<|V c c (az _) (fun g22=>wv<|ae qW c)<|V c c (az _) (fun g23=>cv<|bf (k:=1) bb (aD c g23) c c)<|V c c (az _) (fun g24=>wv<|bO (aD c g24) c)<|V c c (az _) (fun g25=>wv<|ai<|aD c g25)<|V c c (dT _ _) (fun g26=>wv<|ae qW c)<|V c c (dT _ _) (fun g27=>cv<|bf (k:=1) bb (aD c g27) c c)<|V c c (dT _ _) (fun g28=>wv<|ae ja c)<|V c c (dT _ _) (fun g29=>cv<|bf (k:=1) bb (aD c g29) c c)<|V c c (dT _ _) (fun g30=>wv<|jN (aD c g30)<|aD c g30)<|V c c (az _) (fun g31=>wv<|dm (aD c g31)<|aN c<|xl g31)<|p (bS c c)<|O c<|aj<|Y ⟨((decide (a0.fEffect ≥ a0.fBegin)) && ((a0.fEnd == 0) || (decide (a0.fEnd ≥ a0.fEffect)))),c,H21⟩
def eG (a0:aE) (a1:aB) (a2:Int):Bool:=(bif (((((decide (a0.fCore < 0)) || (decide (a0.fCore ≥ a1.fCores))) || (decide (a0.fEnv < 0))) || (decide (a0.fEnv ≥ a1.fEnvs))) || (decide (a0.fBegin ≤ a2))) then (false) else (bif (a0.fEffect == 0) then ((a0.fEnd == 0)) else (((decide (a0.fEffect ≥ a0.fBegin)) && ((a0.fEnd == 0) || (decide (a0.fEnd ≥ a0.fEffect)))))))
theorem pr_hist_one (a0:aE) (a1:aB) (a2:Int) {K:Bool→Hp→Prop} {h:Hp} (k:K (eG a0 a1 a2) h):sh_hist_one a0 a1 a2 K h:=(kr (K:=K) (fun k=>k) (kr (K:=K) (fun k=>k) (fun k=>k))) k
theorem ct_hist_one (a0:aE) (a1:aB) (a2:Int) (h:Hp):Ct Tryz.prog n_hist_one #[(.agg (aE.C a0).toArray),(.agg (aB.C a1).toArray),(.int .i64 a2)] h fun v h'=>∃ r,v = aC r∧(r = eG a0 a1 a2∧h' = h):=sim_hist_one a0 a1 a2 (pr_hist_one a0 a1 a2 ⟨rfl,rfl⟩)
def vy (a0:aE) (K:Bool→Hp→Prop):Hp→Prop:=K (decide (a0.fEffect > 0))
theorem sim_hist_Order_c1 (a0:aE) {K:Bool→Hp→Prop} {h:Hp} (H:vy a0 K h):Ct Tryz.prog nc #[(.agg (aE.C a0).toArray)] h fun v h'=>∃ r,v = aC r∧K r h':=aw [(.agg (aE.C a0).toArray)] Tryz.func93 c c c fun _=>M<|aa<|cQ (l:=aE.C a0) c c c fun b1=>O c<|M<|p (ae ja c)<|bi (bf (k:=0) bb c c c) c<|p (qA c c)<|O c<|aj<|Y ⟨decide (a0.fEffect > 0),c,H⟩
def vF (a0:aE):Bool:=((decide (a0.fEffect > 0)))
theorem pr_hist_Order_c1 (a0:aE) {K:Bool→Hp→Prop} {h:Hp} (k:K (vF a0) h):vy a0 K h:=(fun k=>k) k
theorem ct_hist_Order_c1 (a0:aE) (h:Hp):Ct Tryz.prog nc #[(.agg (aE.C a0).toArray)] h fun v h'=>∃ r,v = aC r∧(r = vF a0∧h' = h):=sim_hist_Order_c1 a0 (pr_hist_Order_c1 a0 ⟨rfl,rfl⟩)
def vz (a0:Int) (K:Bool→Hp→Prop):Hp→Prop:=K (a0 != a0)
theorem sim_cmp_isNaN_int (a0:Int) {K:Bool→Hp→Prop} {h:Hp} (H:vz a0 K h):Ct Tryz.prog n_cmp_isNaN_int #[(.int .i64 a0)] h fun v h'=>∃ r,v = aC r∧K r h':=aw [(.int .i64 a0)] Tryz.func138 c c c fun _=>M<|O c<|M<|J c<|J c<|p (nh c c)<|O c<|aj<|Y ⟨(a0 != a0),c,H⟩
def eu (a0:Int):Bool:=((a0 != a0))
theorem pr_cmp_isNaN_int (a0:Int) {K:Bool→Hp→Prop} {h:Hp} (k:K (eu a0) h):vz a0 K h:=(fun k=>k) k
theorem wc (a0:Int) (h:Hp):Ct Tryz.prog n_cmp_isNaN_int #[(.int .i64 a0)] h fun v h'=>∃ r,v = aC r∧(r = eu a0∧h' = h):=sim_cmp_isNaN_int a0 (pr_cmp_isNaN_int a0 ⟨rfl,rfl⟩)
def sV (a0:Int) (a1:Int) (K:Int→Hp→Prop):Hp→Prop:=br (eu a0) ( br (eu a1) ( K 0) ( K (-1))) ( br (eu a1) ( K 1) ( br (decide (a0 < a1)) ( K (-1)) ( br (decide (a0 > a1)) ( K 1) ( K 0))))
theorem sim_cmp_Compare_int (a0:Int) (a1:Int) {K:Int→Hp→Prop} {h:Hp} (H:sV a0 a1 K h):Ct Tryz.prog uy #[(.int .i64 a0),(.int .i64 a1)] h fun v h'=>∃ r,v = eB r∧K r h':=aw [(.int .i64 a0),(.int .i64 a1)] Tryz.func96 c c c fun _=>M<|O c<|M<|J c<|aa<|cN (vs:=[(.int .i64 a0)]) (bu<|wc a0 _) en_138 c c<|O c<|M<|J c<|aa<|cN (vs:=[(.int .i64 a1)]) (bu<|wc a1 _) en_138 c c<|O c<|al<|M<|J c<|ad<|av c H (fun k1 H2=>al<|M<|J c<|ad<|av c H2 (fun k3 H4=>M<|O c<|aj<|Y ⟨0,c,H4⟩) fun k3 H4=>ao<|M<|O c<|aj<|Y ⟨(-1),c,H4⟩) fun k1 H2=>ao<|al<|M<|J c<|ad<|av c H2 (fun k5 H6=>M<|O c<|aj<|Y ⟨1,c,H6⟩) fun k5 H6=>ao<|al<|M<|J c<|J c<|p (cC c c)<|ad<|av c H6 (fun k7 H8=>M<|O c<|aj<|Y ⟨(-1),c,H8⟩) fun k7 H8=>ao<|al<|M<|J c<|J c<|p (qA c c)<|ad<|av c H8 (fun k9 H10=>M<|O c<|aj<|Y ⟨1,c,H10⟩) fun k9 H10=>ao<|M<|O c<|aj<|Y ⟨0,c,H10⟩
def fR (a0:Int) (a1:Int):Int:=(bif (eu a0) then (bif (eu a1) then (0) else ((-1))) else (bif (eu a1) then (1) else (bif (decide (a0 < a1)) then ((-1)) else (bif (decide (a0 > a1)) then (1) else (0)))))
theorem pr_cmp_Compare_int (a0:Int) (a1:Int) {K:Int→Hp→Prop} {h:Hp} (k:K (fR a0 a1) h):sV a0 a1 K h:=(kr (K:=K) (kr (K:=K) (fun k=>k) (fun k=>k)) (kr (K:=K) (fun k=>k) (kr (K:=K) (fun k=>k) (kr (K:=K) (fun k=>k) (fun k=>k))))) k
theorem ct_cmp_Compare_int (a0:Int) (a1:Int) (h:Hp):Ct Tryz.prog uy #[(.int .i64 a0),(.int .i64 a1)] h fun v h'=>∃ r,v = eB r∧(r = fR a0 a1∧h' = h):=sim_cmp_Compare_int a0 a1 (pr_cmp_Compare_int a0 a1 ⟨rfl,rfl⟩)
def sh_judge_user (a0:aE) (K:Bool→Hp→Prop):Hp→Prop:=K (bT ((aA a0.fCall).1))
theorem sim_judge_user (a0:aE) {K:Bool→Hp→Prop} {h:Hp} (H:sh_judge_user a0 K h):Ct Tryz.prog n_judge_user #[(.agg (aE.C a0).toArray)] h fun v h'=>∃ r,v = aC r∧K r h':=aw [(.agg (aE.C a0).toArray)] Tryz.func139 c c c fun _=>M<|aa<|cQ (l:=aE.C a0) c c c fun b1=>O c<|M<|p (ae mR c)<|bi (bC (k:=0) eT c c c c) c<|aa<|cN (vs:=[(.agg (ah.C a0.fCall).toArray)]) (bu<|kq a0.fCall _) en_63 c c<|J c<|p (ak c c)<|p (ak c c)<|p (au c)<|O c<|M<|J c<|aa<|cN (vs:=[(.int .i64 ((aA a0.fCall).1))]) (bu<|sn (aA a0.fCall).1 _) en_64 c c<|O c<|aj<|Y ⟨bT (aA a0.fCall).1,c,H⟩
def fz (a0:aE):Bool:=((bT ((aA a0.fCall).1)))
theorem pr_judge_user (a0:aE) {K:Bool→Hp→Prop} {h:Hp} (k:K (fz a0) h):sh_judge_user a0 K h:=(fun k=>k) k
theorem ct_judge_user (a0:aE) (h:Hp):Ct Tryz.prog n_judge_user #[(.agg (aE.C a0).toArray)] h fun v h'=>∃ r,v = aC r∧(r = fz a0∧h' = h):=sim_judge_user a0 (pr_judge_user a0 ⟨rfl,rfl⟩)
end Go.Proofs.YtemoifebbhoinaaGreatDoor
namespace Go.Proofs.YtemoifebbhoinaaGreatDoor
open Go Mb
set_option linter.unusedVariables false
def tR (a0:Ptr) (K:(Int × Bool)→Hp→Prop):Hp→Prop:=br a0.isNone ( K (0,false)) ( nn a0 fun q8=>ld (q8.1,q8.2 + 0) cS fun x10=>cl Tryz.prog ke [(sv x10),(.int .i64 0)] eB fun r11=>br (decide (r11 < 0)) ( K (0,false)) ( ld (q8.1,q8.2 + 0) cS fun x17=>ix x17 r11 fun q19=>st (q19.1,q19.2 + Int.toNat r11 * 1) [.int .i64 1]<|K (r11,true)))
theorem sim_pool_Pool_Take (a0:Ptr) {K:(Int × Bool)→Hp→Prop} {h:Hp} (H:tR a0 K h):Ct Tryz.prog jA #[(pv a0)] h fun v h'=>∃ r,v = bL r∧K r h':=aw [(pv a0)] Tryz.func171 c c c fun _=>M<|p (au c)<|O c<|al<|M<|J c<|p (cn Tryz.underlying154 c)<|ad<|av c H (fun k1 H2=>M<|p (au c)<|O c<|aj<|bv (bN c (bY c)<|bY c) ⟨(0,false),c,H2⟩) fun k1 H2=>ao<|M<|J c<|bF H2 fun q8 e3 H4=>p (aL<|aN c<|ap e3)<|p (ae nX c)<|aa<|aW H4 sc_39 c (fun _=>c) c fun x10 H5=>aa<|Z H5 en_199 fun r11 _ H6=>O c<|al<|M<|J c<|p (cC c c)<|ad<|av c H6 (fun k7 H8=>M<|p (au c)<|O c<|aj<|bv (bN c (bY c)<|bY c) ⟨(0,false),c,H8⟩) fun k7 H8=>ao<|M<|J (aN c<|ap e3)<|p (aL c)<|p (ae nX c)<|aa<|aW H8 sc_39 c (fun _=>c) c fun x17 H9=>J c<|ct H9 fun q19 e10 h11 H12=>p (bq iC (aN c<|bc e10) c h11)<|aa<|dy qU c c c c c H12 fun _ H13=>ad<|M<|J c<|p (au c)<|O c<|aj<|bv (bN c (bY c)<|bY c) ⟨(r11,true),c,H13⟩
def tS (a0:Ptr) (a1:Int) (K:Int→Hp→Prop):Hp→Prop:=br (!(a0.isNone || (decide (a1 < 0)))) ( nn a0 fun q14=>ld (q14.1,q14.2 + 0) cS fun x16=>br (decide (a1 ≥ (x16.len:Int))) ( K 0) ( ld (q14.1,q14.2 + 0) cS fun x23=>ix x23 a1 fun q25=>ld (q25.1,q25.2 + Int.toNat a1 * 1) (cI .i64) fun x26=>K x26)) ( K 0)
theorem sim_pool_Pool_Refs (a0:Ptr) (a1:Int) {K:Int→Hp→Prop} {h:Hp} (H:tS a0 a1 K h):Ct Tryz.prog jB #[(pv a0),(.int .i64 a1)] h fun v h'=>∃ r,v = eB r∧K r h':=aw [(pv a0),(.int .i64 a1)] Tryz.func200 c c c fun _=>M<|O c<|al<|M<|J c<|p (cn Tryz.underlying154 c)<|J c<|V c c (aJ _) (fun g1=>wv<|ai c)<|V c c (aJ _) (fun g2=>wv<|cC (aD c g2) c)<|p (dm c c)<|J c<|V c c (aJ _) (fun g3=>wv<|ai c)<|V c c (aJ _) (fun g4=>wv<|ai c)<|bU H (fun k6 H7=>bF H7 fun q14 e8 H9=>F (D<|ch k6)<|R (aL<|aN (aD c k6)<|ap e8)<|F (D<|ch k6)<|R (ae nX c)<|F (D<|ch k6)<|aW H9 sc_39 c (fun _=>c) c fun x16 H10=>F (D<|ch k6)<|R (dA c Tryz.underlying39 c)<|F (D<|ch k6)<|R (jN (aD c k6) c)<|p (aq c (ch k6) c)<|ad<|av c H10 (fun k11 H12=>M<|O c<|aj<|Y ⟨0,c,H12⟩) fun k11 H12=>ao<|M<|J (aN c<|ap e8)<|p (aL c)<|p (ae nX c)<|aa<|aW H12 sc_39 c (fun _=>c) c fun x23 H13=>J c<|ct H13 fun q25 e14 h15 H16=>p (bq iC (aN c<|bc e14) c h15)<|aa<|aW H16 bb c (fun _=>c) c fun x26 H17=>O c<|aj<|Y ⟨x26,c,H17⟩) fun k6 H7=>W (cd<|bJ k6)<|W (cd<|bJ k6)<|W (cd<|bJ k6)<|W (cd<|bJ k6)<|W (cd<|bJ k6)<|p (aU c (bJ k6) c)<|ad<|mB c c<|M<|O c<|aj<|Y ⟨0,c,H7⟩
def tT (a0:Ptr) (a1:Int) (K:Bool→Hp→Prop):Hp→Prop:=cl Tryz.prog jB [(pv a0),(.int .i64 a1)] eB fun r8=>br ((r8 == 0) || (decide (r8 ≥ 7))) ( K false) ( nn a0 fun q16=>ld (q16.1,q16.2 + 0) cS fun x18=>ix x18 a1 fun q20=>ld (q20.1,q20.2 + Int.toNat a1 * 1) (cI .i64) fun x21=>st (q20.1,q20.2 + Int.toNat a1 * 1) [.int .i64 (IntKind.i64.wrap (x21 + 1))]<|K true)
theorem sim_pool_Pool_Hold (a0:Ptr) (a1:Int) {K:Bool→Hp→Prop} {h:Hp} (H:tT a0 a1 K h):Ct Tryz.prog lX #[(pv a0),(.int .i64 a1)] h fun v h'=>∃ r,v = aC r∧K r h':=aw [(pv a0),(.int .i64 a1)] Tryz.func173 c c c fun _=>M<|O c<|al<|M<|J c<|J c<|aa<|Z H en_200 fun r8 _ H1=>O c<|M<|J c<|p (bO c c)<|J c<|V c c (aJ _) (fun g2=>wv<|ai c)<|V c c (aJ _) (fun g3=>wv<|jN (aD c g3) c)<|p (dm c c)<|ad<|av c H1 (fun k4 H5=>M<|O c<|aj<|Y ⟨false,c,H5⟩) fun k4 H5=>ao<|M<|J c<|bF H5 fun q16 e6 H7=>p (aL<|aN c<|ap e6)<|p (ae nX c)<|aa<|aW H7 sc_39 c (fun _=>c) c fun x18 H8=>J c<|ct H8 fun q20 e9 h10 H11=>p (bq iC (aN c<|bc e9) c h10)<|aa<|aW H11 bb c (fun _=>c) c fun x21 H12=>p (bw c c)<|p (bq iC (aN c<|bc e9) c h10)<|aa<|dy qU c c c c c H12 fun _ H13=>ad<|M<|O c<|aj<|Y ⟨true,c,H13⟩
def vr (a0:Ptr) (a1:Int) (K:(Int × Bool)→Hp→Prop):Hp→Prop:=cl Tryz.prog jB [(pv a0),(.int .i64 a1)] eB fun r8=>br (r8 == 0) ( K (0,false)) ( nn a0 fun q11=>ld (q11.1,q11.2 + 0) cS fun x13=>ix x13 a1 fun q15=>ld (q15.1,q15.2 + Int.toNat a1 * 1) (cI .i64) fun x16=>st (q15.1,q15.2 + Int.toNat a1 * 1) [.int .i64 (IntKind.i64.wrap (x16 - 1))]<|ld (q11.1,q11.2 + 0) cS fun x22=>ix x22 a1 fun q24=>ld (q24.1,q24.2 + Int.toNat a1 * 1) (cI .i64) fun x25=>K (x25,true))
theorem sim_pool_Pool_Let (a0:Ptr) (a1:Int) {K:(Int × Bool)→Hp→Prop} {h:Hp} (H:vr a0 a1 K h):Ct Tryz.prog mZ #[(pv a0),(.int .i64 a1)] h fun v h'=>∃ r,v = bL r∧K r h':=aw [(pv a0),(.int .i64 a1)] Tryz.func177 c c c fun _=>M<|p (au c)<|O c<|al<|M<|J c<|J c<|aa<|Z H en_200 fun r8 _ H1=>p (bO c c)<|ad<|av c H1 (fun k2 H3=>M<|p (au c)<|O c<|aj<|bv (bN c (bY c)<|bY c) ⟨(0,false),c,H3⟩) fun k2 H3=>ao<|M<|J c<|bF H3 fun q11 e4 H5=>p (aL<|aN c<|ap e4)<|p (ae nX c)<|aa<|aW H5 sc_39 c (fun _=>c) c fun x13 H6=>J c<|ct H6 fun q15 e7 h8 H9=>p (bq iC (aN c<|bc e7) c h8)<|aa<|aW H9 bb c (fun _=>c) c fun x16 H10=>p (v_sub c c)<|p (bq iC (aN c<|bc e7) c h8)<|aa<|dy qU c c c c c H10 fun _ H11=>ad<|M<|J (aN c<|ap e4)<|p (aL c)<|p (ae nX c)<|aa<|aW H11 sc_39 c (fun _=>c) c fun x22 H12=>J c<|ct H12 fun q24 e13 h14 H15=>p (bq iC (aN c<|bc e13) c h14)<|aa<|aW H15 bb c (fun _=>c) c fun x25 H16=>p (au c)<|O c<|aj<|bv (bN c (bY c)<|bY c) ⟨(x25,true),c,H16⟩
def sh_pool_New (a0:Int) (K:Ptr→Hp→Prop):Hp→Prop:=br ((decide (a0 < 1)) || (decide (a0 > 16))) ( K none) ( hpv Tryz.prog (Instr.makeSlice dI (.int .i64 a0) (.int .i64 a0)) cu fun (v10:Sl)=>nw qB (nZ.C (⟨v10⟩:nZ)) fun b12=>K (some (b12,0)))
theorem sim_pool_New (a0:Int) {K:Ptr→Hp→Prop} {h:Hp} (H:sh_pool_New a0 K h):Ct Tryz.prog xa #[(.int .i64 a0)] h fun v h'=>∃ r,v = so r∧K r h':=aw [(.int .i64 a0)] Tryz.func105 c c c fun _=>M<|O c<|al<|M<|J c<|p (cC c c)<|J c<|V c c (aJ _) (fun g1=>wv<|ai c)<|V c c (aJ _) (fun g2=>wv<|qA (aD c g2) c)<|p (dm c c)<|ad<|av c H (fun k3 H4=>M<|O c<|aj<|Y ⟨none,c,H4⟩) fun k3 H4=>ao<|M<|J c<|aa<|aS H4 (jP c c) c fun v10 _ H5=>p (aY c<|build_210_0 v10)<|aa<|ie c c c H5 fun b12 _ H6=>O c<|aj<|Y ⟨some (b12,0),c,H6⟩
def oI (K:Sl→Hp→Prop) (x11:Sl) (Rec7:(Sl × Int)→Hp→Prop) (s6:Sl × Int):Hp→Prop:=br (decide (s6.2 < (x11.len:Int))) ( ix x11 s6.2 fun q16=>ld (q16.1,q16.2 + Int.toNat s6.2 * 1) (cI .i64) fun x17=>br (x17 == 0) ( hpv Tryz.prog (Instr.buildSlice dI 1 #[(0,(.int .i64 s6.2))]) cu fun (v22:Sl)=>hpv Tryz.prog (Builtin.append_ #[dI,dI] dI #[(sv s6.1),(sv v22)]) cu fun (v23:Sl)=>Rec7 (v23,(IntKind.i64.wrap (s6.2 + 1)))) ( Rec7 (s6.1,(IntKind.i64.wrap (s6.2 + 1))))) ( K s6.1)
def tU (a0:Ptr) (K:Sl→Hp→Prop):Hp→Prop:=br a0.isNone ( K (⟨none,0,0,none⟩:Sl)) ( nn a0 fun q9=>ld (q9.1,q9.2 + 0) cS fun x11=>Lp (oI K x11) ((⟨none,0,0,none⟩:Sl),0))
theorem sim_pool_Pool_Free (a0:Ptr) {K:Sl→Hp→Prop} {h:Hp} (H:tU a0 K h):Ct Tryz.prog lY #[(pv a0)] h fun v h'=>∃ r,v = cu r∧K r h':=aw [(pv a0)] Tryz.func103 c c c fun _=>M<|O c<|al<|M<|J c<|p (cn Tryz.underlying154 c)<|ad<|av c H (fun k1 H2=>M<|O c<|aj<|Y ⟨(⟨none,0,0,none⟩:Sl),c,H2⟩) fun k1 H2=>ao<|M<|O c<|al<|M<|J c<|bF H2 fun q9 e3 H4=>p (aL<|aN c<|ap e3)<|p (ae nX c)<|aa<|aW H4 sc_39 c (fun _=>c) c fun x11 H5=>p (dA c Tryz.underlying39 c)<|J c<|ad<|ay<|bE (step:=oI K x11) (fun s6=>[(3,(sv s6.1)),(11,(sv x11)),(12,(.int .i64 (x11.len:Int))),(13,(.int .i64 s6.2))]) (fun s6=>[]) H5 (.cons c<|.cons c<|.cons c<|.cons c<|.nil _) .slnil fun Rec7 s6 _ H8=>M<|p (cC c c)<|ad<|al<|av c H8 (fun k9 H10=>ao<|al<|ay<|M<|J c<|ct H10 fun q16 e11 h12 H13=>p (bq iC (aN c<|bc e11) c h12)<|aa<|aW H13 bb c (fun _=>c) c fun x17 H14=>p (au c)<|O c<|M<|J c<|p (bO c c)<|ad<|av c H14 (fun k15 H16=>ar<|J c<|J c<|aa<|aS H16 (bo (vs:=[(.int .i64 s6.2)]) c) c fun v22 _ H17=>aa<|aS H17 (dH c c) c fun v23 _ H18=>O c<|ar<|p (bw c c)<|J c<|ad<|cR (v23,(IntKind.i64.wrap (s6.2 + 1))) H18 (.cons c<|.cons c<|.cons c<|.cons c<|.nil _) .slnil) fun k15 H16=>ao<|ar<|p (bw c c)<|J c<|ad<|cR (s6.1,(IntKind.i64.wrap (s6.2 + 1))) H16 (.cons c<|.cons c<|.cons c<|.cons c<|.nil _) .slnil) fun k9 H10=>bj<|M<|J c<|O c<|aj<|Y ⟨s6.1,c,H10⟩
def oJ (K:Int→Hp→Prop) (r7:Sl) (Rec3:(Int × Int)→Hp→Prop) (s2:Int × Int):Hp→Prop:=br (decide (s2.2 < (r7.len:Int))) ( ix r7 s2.2 fun q11=>ld (q11.1,q11.2 + Int.toNat s2.2 * 1) (cI .i64) fun x12=>gd (0 ≤ x12)<|Rec3 ((ior .u64 s2.1 (IntKind.u64.wrap (1 * 2 ^ (min (Int.toNat x12) (IntKind.bits .u64))))),(IntKind.i64.wrap (s2.2 + 1)))) ( K s2.1)
def tV (a0:Ptr) (K:Int→Hp→Prop):Hp→Prop:=cl Tryz.prog lY [(pv a0)] cu fun r7=>Lp (oJ K r7) (0,0)
theorem sim_pool_Pool_Bits (a0:Ptr) {K:Int→Hp→Prop} {h:Hp} (H:tV a0 K h):Ct Tryz.prog pX #[(pv a0)] h fun v h'=>∃ r,v = gS r∧K r h':=aw [(pv a0)] Tryz.func217 c c c fun _=>M<|O c<|M<|O c<|al<|M<|J c<|aa<|Z H en_103 fun r7 _ H1=>p (dA c Tryz.underlying39 c)<|J c<|ad<|ay<|bE (step:=oJ K r7) (fun s2=>[(3,(.int .u64 s2.1)),(7,(sv r7)),(8,(.int .i64 (r7.len:Int))),(9,(.int .i64 s2.2))]) (fun s2=>[]) H1 (.cons c<|.cons c<|.cons c<|.cons c<|.nil _) .slnil fun Rec3 s2 _ H4=>M<|p (cC c c)<|ad<|al<|av c H4 (fun k5 H6=>ao<|al<|ay<|M<|ct H6 fun q11 e7 h8 H9=>p (bq iC (aN c<|bc e7) c h8)<|aa<|aW H9 bb c (fun _=>c) c fun x12 H10=>O c<|ar<|J c<|J c<|jl H10 fun z11 H12=>p (v_shl c c z11)<|p (v_ior c c)<|O c<|ar<|p (bw c c)<|J c<|ad<|cR ((ior .u64 s2.1 (IntKind.u64.wrap (1 * 2 ^ (min (Int.toNat x12) (IntKind.bits .u64))))),(IntKind.i64.wrap (s2.2 + 1))) H12 (.cons c<|.cons c<|.cons c<|.cons c<|.nil _) .slnil) fun k5 H6=>bj<|M<|J c<|O c<|aj<|Y ⟨s2.1,c,H6⟩
end Go.Proofs.YtemoifebbhoinaaGreatDoor
