/- Part of the proof of: The law HistTurn returns true for every input, and leaves its arguments as they were. -/
import Derived.Test.YtemoifebbhoinaaGreatDoorHistTurn02
set_option linter.all false
set_option maxRecDepth 20000
namespace Go.Proofs.YtemoifebbhoinaaGreatDoor
open Go Mb
set_option linter.unusedVariables false
structure ai where
  e0:Int
  e1:Int
  e2:Int
  e3:Int
  e4:Int
def ai.C (x:ai):List Value:=[.int .u64 x.e0,.int .u64 x.e1,.int .u64 x.e2,.int .u64 x.e3,.int .u64 x.e4]
structure ac where
  fErr:Int
  fVal:Int
def ac.C (x:ac):List Value:=[.int .i64 x.fErr,.int .u64 x.fVal]
structure am where
  fEnv:Int
  fPage:Int
  fFrame:Int
  fRights:Int
def am.C (x:am):List Value:=[.int .i64 x.fEnv,.int .i64 x.fPage,.int .i64 x.fFrame,.int .i64 x.fRights]
structure aB where
  fCore:Int
  fEnv:Int
  fCall:ai
  fBegin:Int
  fEffect:Int
  fEnd:Int
  fAnswer:ac
  fLine:am
def aB.C (x:aB):List Value:=[.int .i64 x.fCore,.int .i64 x.fEnv,.int .u64 x.fCall.e0,.int .u64 x.fCall.e1,.int .u64 x.fCall.e2,.int .u64 x.fCall.e3,.int .u64 x.fCall.e4,.int .i64 x.fBegin,.int .i64 x.fEffect,.int .i64 x.fEnd,.int .i64 x.fAnswer.fErr,.int .u64 x.fAnswer.fVal,.int .i64 x.fLine.fEnv,.int .i64 x.fLine.fPage,.int .i64 x.fLine.fFrame,.int .i64 x.fLine.fRights]
structure lX where
  fat:Int
  fenv:Int
  fc:ai
  ftold:Bool
  fepoch:Int
def lX.C (x:lX):List Value:=[.int .i64 x.fat,.int .i64 x.fenv,.int .u64 x.fc.e0,.int .u64 x.fc.e1,.int .u64 x.fc.e2,.int .u64 x.fc.e3,.int .u64 x.fc.e4,.bool x.ftold,.int .u64 x.fepoch]
structure al where
  fFrame:Int
  fSlot:Int
  fRights:Int
def al.C (x:al):List Value:=[.int .i64 x.fFrame,.int .i64 x.fSlot,.int .i64 x.fRights]
structure aC where
  fFrame:Int
  fRights:Int
  fEnv:Int
  fSlot:Int
def aC.C (x:aC):List Value:=[.int .i64 x.fFrame,.int .i64 x.fRights,.int .i64 x.fEnv,.int .i64 x.fSlot]
structure cm where
  fl:am
  fwhen:Int
def cm.C (x:cm):List Value:=[.int .i64 x.fl.fEnv,.int .i64 x.fl.fPage,.int .i64 x.fl.fFrame,.int .i64 x.fl.fRights,.int .i64 x.fwhen]
structure jr where
  e0:cm
  e1:cm
def jr.C (x:jr):List Value:=[.int .i64 x.e0.fl.fEnv,.int .i64 x.e0.fl.fPage,.int .i64 x.e0.fl.fFrame,.int .i64 x.e0.fl.fRights,.int .i64 x.e0.fwhen,.int .i64 x.e1.fl.fEnv,.int .i64 x.e1.fl.fPage,.int .i64 x.e1.fl.fFrame,.int .i64 x.e1.fl.fRights,.int .i64 x.e1.fwhen]
structure aH where
  fEnv:Int
  fSlot:Int
def aH.C (x:aH):List Value:=[.int .i64 x.fEnv,.int .i64 x.fSlot]
structure au where
  fCores:Int
  fEnvs:Int
  fFrames:Int
def au.C (x:au):List Value:=[.int .i64 x.fCores,.int .i64 x.fEnvs,.int .i64 x.fFrames]
structure sN where
  fl:Sl
def sN.C (x:sN):List Value:=[sv x.fl]
structure oy where
  frefs:Sl
def oy.C (x:oy):List Value:=[sv x.frefs]
structure oB where
  fl:Sl
def oB.C (x:oB):List Value:=[sv x.fl]
structure gw where
  fs:au
  fm:Ptr
  ftables:Sl
  fpool:Ptr
  fcaps:Ptr
def gw.C (x:gw):List Value:=[.int .i64 x.fs.fCores,.int .i64 x.fs.fEnvs,.int .i64 x.fs.fFrames,pv x.fm,sv x.ftables,pv x.fpool,pv x.fcaps]
structure kO where
  fes:Sl
  fs:au
  fk:Ptr
def kO.C (x:kO):List Value:=[sv x.fes,.int .i64 x.fs.fCores,.int .i64 x.fs.fEnvs,.int .i64 x.fs.fFrames,pv x.fk]
structure oz where
  fl:Sl
def oz.C (x:oz):List Value:=[sv x.fl]
structure jV where
  fowner:Sl
  fheard:Sl
def jV.C (x:jV):List Value:=[sv x.fowner,sv x.fheard]
structure fN where
  fp:Ptr
  fenvs:Int
  ftlbs:Sl
  fboxes:Ptr
  fepochs:Ptr
  fcalls:Sl
  fevents:Sl
  fnow:Int
def fN.C (x:fN):List Value:=[pv x.fp,.int .i64 x.fenvs,sv x.ftlbs,pv x.fboxes,pv x.fepochs,sv x.fcalls,sv x.fevents,.int .i64 x.fnow]
structure ci where
  fKind:Int
  fCore:Int
  fEnv:Int
  fCall:ai
  fSet:Int
  fWay:Int
def ci.C (x:ci):List Value:=[.int .i64 x.fKind,.int .i64 x.fCore,.int .i64 x.fEnv,.int .u64 x.fCall.e0,.int .u64 x.fCall.e1,.int .u64 x.fCall.e2,.int .u64 x.fCall.e3,.int .u64 x.fCall.e4,.int .i64 x.fSet,.int .i64 x.fWay]
structure cd where
  fCode:Int
  fEnv:Int
  fCall:ai
  fErr:Value
def cd.C (x:cd):List Value:=[.int .i64 x.fCode,.int .i64 x.fEnv,.int .u64 x.fCall.e0,.int .u64 x.fCall.e1,.int .u64 x.fCall.e2,.int .u64 x.fCall.e3,.int .u64 x.fCall.e4,x.fErr]
structure aN where
  ftyp_:Ptr
  fptr:Ptr
  fflag:Int
def aN.C (x:aN):List Value:=[pv x.ftyp_,pv x.fptr,.int .u64 x.fflag]
structure oA where
  fv:Int
  fn:Int
def oA.C (x:oA):List Value:=[.int .u64 x.fv,.int .i64 x.fn]
structure kN where
  fdrawn:Ptr
  fpassed:Ptr
def kN.C (x:kN):List Value:=[pv x.fdrawn,pv x.fpassed]
structure rg where
  fIs:Bool
  fFrame:Int
  fRights:Int
  fEnv:Int
  fSlot:Int
def rg.C (x:rg):List Value:=[.bool x.fIs,.int .i64 x.fFrame,.int .i64 x.fRights,.int .i64 x.fEnv,.int .i64 x.fSlot]
structure iK where
  fEnv:Int
  fSlot:Int
def iK.C (x:iK):List Value:=[.int .i64 x.fEnv,.int .i64 x.fSlot]
def eI (r:Sl):Value:=(sv r)
abbrev eT:Nat:=42
abbrev eW:Nat:=55
theorem wh:Fld Tryz.prog 109 6 6:=bX (m:=1) Tryz.underlying109 rfl rfl (by kernel_rfl) (by decide)
theorem en_55:aM Tryz.prog 55:=⟨_,Tryz.func55,by decide,rfl⟩
theorem sc_42:Sc Tryz.prog 42:=⟨⟨_,Tryz.underlying42,rfl⟩,bL (by kernel_rfl)⟩
abbrev fZ:Nat:=20
def aA (r:Bool):Value:=(.bool r)
theorem qt:Fld Tryz.prog 109 5 5:=bX (m:=1) Tryz.underlying109 rfl rfl (by kernel_rfl) (by decide)
theorem sc_107:Sc Tryz.prog 107:=⟨⟨_,Tryz.underlying107,rfl⟩,bL (by kernel_rfl)⟩
abbrev iz:Nat:=62
theorem slc_107:Slc Tryz.prog 107 118 1:=⟨Tryz.underlying107,bL (by kernel_rfl)⟩
theorem sc_118:Sc Tryz.prog 118:=⟨⟨_,Tryz.underlying118,rfl⟩,bL (by kernel_rfl)⟩
theorem en_62:aM Tryz.prog 62:=⟨_,Tryz.func62,by decide,rfl⟩
abbrev ga:Nat:=31
theorem fld_109_1:Fld Tryz.prog 109 1 1:=bX (m:=1) Tryz.underlying109 rfl rfl (by kernel_rfl) (by decide)
theorem jQ:Fld Tryz.prog 109 7 7:=bX (m:=1) Tryz.underlying109 rfl rfl (by kernel_rfl) (by decide)
theorem cn:Tryz.prog.follows .mixedOrders = true:=by kernel_rfl
theorem fy:Ag Tryz.prog 34 5:=⟨⟨_,Tryz.underlying34,rfl⟩,bL (by kernel_rfl)⟩
theorem build_56_0_1_2_3 (y0:Int) (y1:Int) (y2:ai) (y3:Int):∀ w,(Instr.build 56 #[(0,(.int .i64 y0)),(1,(.int .i64 y1)),(2,(.agg (ai.C y2).toArray)),(3,(.int .i64 y3))]).run Tryz.prog w = .ok (.agg (aB.C (⟨y0,y1,y2,y3,0,0,(⟨0,0⟩:ac),(⟨0,0,0,0⟩:am)⟩:aB)).toArray) w:=fun _=>by kernel_rfl
theorem build_120_0_1_2 (y0:Int) (y1:Int) (y2:ai):∀ w,(Instr.build 120 #[(0,(.int .i64 y0)),(1,(.int .i64 y1)),(2,(.agg (ai.C y2).toArray))]).run Tryz.prog w = .ok (.agg (lX.C (⟨y0,y1,y2,false,0⟩:lX)).toArray) w:=fun _=>by kernel_rfl
theorem inf_118:∃ i,Tryz.prog.info? 118 = some i∧i.size = 1:=bL (by kernel_rfl)
abbrev cT:Nat:=120
theorem inf_42:∃ i,Tryz.prog.info? 42 = some i∧i.size = 1:=bL (by kernel_rfl)
theorem aS:Sc Tryz.prog 3:=⟨⟨_,Tryz.underlying3,rfl⟩,bL (by kernel_rfl)⟩
theorem lP:∃ i,Tryz.prog.info? 3 = some i∧i.size = 1:=bL (by kernel_rfl)
theorem en_31:aM Tryz.prog 31:=⟨_,Tryz.func31,by decide,rfl⟩
abbrev ll:Nat:=27
def bQ (r:Int × Bool):Value:=.tuple #[(.int .i64 r.1),(.bool r.2)]
theorem dk:Arr Tryz.prog 34 5 22 1:=⟨Tryz.underlying34,bL (by kernel_rfl)⟩
theorem cy:Sc Tryz.prog 22:=⟨⟨_,Tryz.underlying22,rfl⟩,bL (by kernel_rfl)⟩
abbrev n_word_Kind:Nat:=63
abbrev n_word_User:Nat:=64
def iH (r:Ptr):Value:=(pv r)
abbrev kI:Nat:=214
abbrev lD:Nat:=107
def cG (r:Sl):Value:=(sv r)
abbrev dK:Nat:=39
abbrev sk:Nat:=153
def ai.get (x:ai) (i:Int):Int:=match i.toNat with | 0=>x.e0 | 1=>x.e1 | 2=>x.e2 | 3=>x.e3 | 4=>x.e4 | _=>x.e4
theorem at_34 (x:ai) (i:Int) (h:0 ≤ i∧i < 5):(ai.C x)[0 + i.toNat * 1]? = some (.int .u64 (ai.get x i)):=by
  obtain ⟨n,rfl⟩:=Int.eq_ofNat_of_zero_le h.1
  have h2:n < 5:=by omega
  rcases n with _ | (_ | (_ | (_ | (_ | _)))) <;> first | rfl | omega
abbrev nD:Nat:=160
abbrev n_word_Rights:Nat:=193
theorem en_160:aM Tryz.prog 160:=⟨_,Tryz.func160,by decide,rfl⟩
theorem en_193:aM Tryz.prog 193:=⟨_,Tryz.func193,by decide,rfl⟩
abbrev n_word_fits:Nat:=154
def bi (r:Int):Value:=(.int .i64 r)
theorem iP:Slc Tryz.prog 39 3 1:=⟨Tryz.underlying39,bL (by kernel_rfl)⟩
theorem en_154:aM Tryz.prog 154:=⟨_,Tryz.func154,by decide,rfl⟩
theorem en_153:aM Tryz.prog 153:=⟨_,Tryz.func153,by decide,rfl⟩
theorem en_63:aM Tryz.prog 63:=⟨_,Tryz.func63,by decide,rfl⟩
abbrev gY:Nat:=110
theorem wg:Fld Tryz.prog 157 0 0:=bX (m:=3) Tryz.underlying157 rfl rfl (by kernel_rfl) (by decide)
theorem kH:Fld Tryz.prog 25 1 1:=bX (m:=1) Tryz.underlying25 rfl rfl (by kernel_rfl) (by decide)
abbrev ku:Nat:=122
abbrev n_table_is:Nat:=156
def cF (r:al × Bool):Value:=.tuple #[(.agg (al.C r.1).toArray),(.bool r.2)]
theorem gg:∃ i,Tryz.prog.info? 79 = some i∧i.zero = some (.agg (al.C (⟨0,0,0⟩:al)).toArray):=lb (by kernel_rfl)
theorem np  : ∀ w,(Instr.build 79 #[]).run Tryz.prog w = .ok (.agg (al.C (⟨0,0,0⟩:al)).toArray) w:=fun _=>by kernel_rfl
theorem fM:Ag Tryz.prog 79 3:=⟨⟨_,Tryz.underlying79,rfl⟩,bL (by kernel_rfl)⟩
theorem dW:∃ i,Tryz.prog.info? 79 = some i∧i.size = 3:=bL (by kernel_rfl)
theorem kL:Fld Tryz.prog 214 0 0:=bX (m:=24) Tryz.underlying214 rfl rfl (by kernel_rfl) (by decide)
theorem xI:Arr Tryz.prog 80 8 79 3:=⟨Tryz.underlying80,bL (by kernel_rfl)⟩
theorem eR:Fld Tryz.prog 79 2 2:=bX (m:=1) Tryz.underlying79 rfl rfl (by kernel_rfl) (by decide)
theorem en_156:aM Tryz.prog 156:=⟨_,Tryz.func156,by decide,rfl⟩
abbrev fd:Nat:=135
theorem fj:Fld Tryz.prog 157 2 4:=bX (m:=1) Tryz.underlying157 rfl rfl (by kernel_rfl) (by decide)
theorem nr:Slc Tryz.prog 153 161 1:=⟨Tryz.underlying153,bL (by kernel_rfl)⟩
theorem en_135:aM Tryz.prog 135:=⟨_,Tryz.func135,by decide,rfl⟩
theorem ro:Sc Tryz.prog 161:=⟨⟨_,Tryz.underlying161,rfl⟩,bL (by kernel_rfl)⟩
theorem mN:Sc Tryz.prog 153:=⟨⟨_,Tryz.underlying153,rfl⟩,bL (by kernel_rfl)⟩
theorem en_122:aM Tryz.prog 122:=⟨_,Tryz.func122,by decide,rfl⟩
abbrev fY:Nat:=89
theorem ik:Fld Tryz.prog 208 0 0:=bX (m:=1) Tryz.underlying208 rfl rfl (by kernel_rfl) (by decide)
theorem qh:Sc Tryz.prog 206:=⟨⟨_,Tryz.underlying206,rfl⟩,bL (by kernel_rfl)⟩
abbrev iA:Nat:=151
def cQ (r:aC × Bool):Value:=.tuple #[(.agg (aC.C r.1).toArray),(.bool r.2)]
theorem iI:∃ i,Tryz.prog.info? 36 = some i∧i.zero = some (.agg (aC.C (⟨0,0,0,0⟩:aC)).toArray):=lb (by kernel_rfl)
theorem build_36  : ∀ w,(Instr.build 36 #[]).run Tryz.prog w = .ok (.agg (aC.C (⟨0,0,0,0⟩:aC)).toArray) w:=fun _=>by kernel_rfl
theorem ag_36:Ag Tryz.prog 36 4:=⟨⟨_,Tryz.underlying36,rfl⟩,bL (by kernel_rfl)⟩
theorem gL:∃ i,Tryz.prog.info? 36 = some i∧i.size = 4:=bL (by kernel_rfl)
theorem oJ:Slc Tryz.prog 206 205 32:=⟨Tryz.underlying206,bL (by kernel_rfl)⟩
theorem qD:Arr Tryz.prog 205 8 36 4:=⟨Tryz.underlying205,bL (by kernel_rfl)⟩
theorem gT:Fld Tryz.prog 36 1 1:=bX (m:=1) Tryz.underlying36 rfl rfl (by kernel_rfl) (by decide)
theorem en_151:aM Tryz.prog 151:=⟨_,Tryz.func151,by decide,rfl⟩
abbrev eE:Nat:=102
theorem fI:Fld Tryz.prog 157 4 6:=bX (m:=1) Tryz.underlying157 rfl rfl (by kernel_rfl) (by decide)
theorem tJ:aM Tryz.prog 102:=⟨_,Tryz.func102,by decide,rfl⟩
theorem ir:Sc Tryz.prog 155:=⟨⟨_,Tryz.underlying155,rfl⟩,bL (by kernel_rfl)⟩
abbrev iw:Nat:=53
abbrev n_pte_May:Nat:=166
theorem en_166:aM Tryz.prog 166:=⟨_,Tryz.func166,by decide,rfl⟩
abbrev n_pte_Within:Nat:=116
theorem fo:Fld Tryz.prog 120 2 2:=bX (m:=5) Tryz.underlying120 rfl rfl (by kernel_rfl) (by decide)
theorem ox:Fld Tryz.prog 109 0 0:=bX (m:=1) Tryz.underlying109 rfl rfl (by kernel_rfl) (by decide)
theorem re:Fld Tryz.prog 36 2 2:=bX (m:=1) Tryz.underlying36 rfl rfl (by kernel_rfl) (by decide)
theorem fld_36_3:Fld Tryz.prog 36 3 3:=bX (m:=1) Tryz.underlying36 rfl rfl (by kernel_rfl) (by decide)
theorem en_53:aM Tryz.prog 53:=⟨_,Tryz.func53,by decide,rfl⟩
theorem qi:Sc Tryz.prog 103:=⟨⟨_,Tryz.underlying103,rfl⟩,bL (by kernel_rfl)⟩
abbrev fU:Nat:=36
theorem sM:Fld Tryz.prog 120 1 1:=bX (m:=1) Tryz.underlying120 rfl rfl (by kernel_rfl) (by decide)
abbrev ql:Nat:=165
def wu (r:al):Value:=(.agg (al.C r).toArray)
theorem tC:Fld Tryz.prog 79 1 1:=bX (m:=1) Tryz.underlying79 rfl rfl (by kernel_rfl) (by decide)
theorem mT:aM Tryz.prog 116:=⟨_,Tryz.func116,by decide,rfl⟩
theorem en_165:aM Tryz.prog 165:=⟨_,Tryz.func165,by decide,rfl⟩
abbrev mq:Nat:=115
theorem en_115:aM Tryz.prog 115:=⟨_,Tryz.func115,by decide,rfl⟩
theorem fld_120_3:Fld Tryz.prog 120 3 7:=bX (m:=1) Tryz.underlying120 rfl rfl (by kernel_rfl) (by decide)
theorem sc_4:Sc Tryz.prog 4:=⟨⟨_,Tryz.underlying4,rfl⟩,bL (by kernel_rfl)⟩
theorem en_89:aM Tryz.prog 89:=⟨_,Tryz.func89,by decide,rfl⟩
abbrev mo:Nat:=111
def bM (r:Int × Bool):Value:=.tuple #[(.int .u64 r.1),(.bool r.2)]
def al.eqb (x y:al):Bool:=((x.fFrame == y.fFrame) && ((x.fSlot == y.fSlot) && ((x.fRights == y.fRights) && true)))
theorem eqr_79 (n:Nat) (x y:al):EqR Tryz.prog (n + 2) 79 (.agg (al.C x).toArray) (.agg (al.C y).toArray) (al.eqb x y):=xD Tryz.underlying79 (by kernel_rfl) (lT (by decide) (ib aS rfl) (ib aS rfl) (jC (n:=n + 0) Tryz.underlying3) (lT (by decide) (ib aS rfl) (ib aS rfl) (jC (n:=n + 0) Tryz.underlying3) (lT (by decide) (ib aS rfl) (ib aS rfl) (jC (n:=n + 0) Tryz.underlying3) eqf_nil)))
theorem eqg_79:Tryz.prog.eqGuardType Tryz.prog.depth 79 = false:=by kernel_rfl
theorem rc:Fld Tryz.prog 79 0 0:=bX (m:=1) Tryz.underlying79 rfl rfl (by kernel_rfl) (by decide)
abbrev n_pte_Put:Nat:=155
theorem en_155:aM Tryz.prog 155:=⟨_,Tryz.func155,by decide,rfl⟩
abbrev eD:Nat:=112
def R_api_Line (r:am):Value:=(.agg (am.C r).toArray)
theorem lc:∃ i,Tryz.prog.info? 54 = some i∧i.zero = some (.agg (am.C (⟨0,0,0,0⟩:am)).toArray):=lb (by kernel_rfl)
theorem build_54_0 (y0:Int):∀ w,(Instr.build 54 #[(0,(.int .i64 y0))]).run Tryz.prog w = .ok (.agg (am.C (⟨y0,0,0,0⟩:am)).toArray) w:=fun _=>by kernel_rfl
theorem ig:Ag Tryz.prog 54 4:=⟨⟨_,Tryz.underlying54,rfl⟩,bL (by kernel_rfl)⟩
theorem fD:∃ i,Tryz.prog.info? 54 = some i∧i.size = 4:=bL (by kernel_rfl)
abbrev n_tlb_empty:Nat:=152
def kg (r:Ptr):Value:=(pv r)
theorem sL:Fld Tryz.prog 173 0 0:=bX (m:=40) Tryz.underlying173 rfl rfl (by kernel_rfl) (by decide)
theorem arr_171:Arr Tryz.prog 171 4 170 10:=⟨Tryz.underlying171,bL (by kernel_rfl)⟩
theorem arr_170:Arr Tryz.prog 170 2 169 5:=⟨Tryz.underlying170,bL (by kernel_rfl)⟩
theorem mz:Fld Tryz.prog 169 0 0:=bX (m:=4) Tryz.underlying169 rfl rfl (by kernel_rfl) (by decide)
theorem jP:Fld Tryz.prog 54 0 0:=bX (m:=1) Tryz.underlying54 rfl rfl (by kernel_rfl) (by decide)
theorem nl:Fld Tryz.prog 54 1 1:=bX (m:=1) Tryz.underlying54 rfl rfl (by kernel_rfl) (by decide)
abbrev oX:Nat:=167
theorem en_152:aM Tryz.prog 152:=⟨_,Tryz.func152,by decide,rfl⟩
theorem en_167:aM Tryz.prog 167:=⟨_,Tryz.func167,by decide,rfl⟩
abbrev nt:Nat:=117
def fO (r:am × Bool):Value:=.tuple #[(.agg (am.C r.1).toArray),(.bool r.2)]
theorem lW  : ∀ w,(Instr.build 54 #[]).run Tryz.prog w = .ok (.agg (am.C (⟨0,0,0,0⟩:am)).toArray) w:=fun _=>by kernel_rfl
abbrev oY:Nat:=157
abbrev n_pte_Lets:Nat:=158
theorem fld_169_1:Fld Tryz.prog 169 1 4:=bX (m:=1) Tryz.underlying169 rfl rfl (by kernel_rfl) (by decide)
abbrev tq:Nat:=194
theorem lR:Fld Tryz.prog 54 2 2:=bX (m:=1) Tryz.underlying54 rfl rfl (by kernel_rfl) (by decide)
theorem rd:Fld Tryz.prog 54 3 3:=bX (m:=1) Tryz.underlying54 rfl rfl (by kernel_rfl) (by decide)
theorem fld_173_1:Fld Tryz.prog 173 1 40:=bX (m:=1) Tryz.underlying173 rfl rfl (by kernel_rfl) (by decide)
theorem build_169_0_1 (y0:am) (y1:Int):∀ w,(Instr.build 169 #[(0,(.agg (am.C y0).toArray)),(1,(.int .i64 y1))]).run Tryz.prog w = .ok (.agg (cm.C (⟨y0,y1⟩:cm)).toArray) w:=fun _=>by kernel_rfl
theorem inf_169:∃ i,Tryz.prog.info? 169 = some i∧i.size = 5:=bL (by kernel_rfl)
theorem en_194:aM Tryz.prog 194:=⟨_,Tryz.func194,by decide,rfl⟩
abbrev oZ:Nat:=159
theorem en_117:aM Tryz.prog 117:=⟨_,Tryz.func117,by decide,rfl⟩
theorem wq (y0:Int) (y1:Int) (y2:Int) (y3:Int):∀ w,(Instr.build 54 #[(0,(.int .i64 y0)),(1,(.int .i64 y1)),(2,(.int .i64 y2)),(3,(.int .i64 y3))]).run Tryz.prog w = .ok (.agg (am.C (⟨y0,y1,y2,y3⟩:am)).toArray) w:=fun _=>by kernel_rfl
theorem en_159:aM Tryz.prog 159:=⟨_,Tryz.func159,by decide,rfl⟩
theorem en_158:aM Tryz.prog 158:=⟨_,Tryz.func158,by decide,rfl⟩
theorem en_157:aM Tryz.prog 157:=⟨_,Tryz.func157,by decide,rfl⟩
abbrev uC:Nat:=113
def eJ (r:Int):Value:=(.int .i64 r)
theorem sK:Fld Tryz.prog 212 0 0:=bX (m:=1) Tryz.underlying212 rfl rfl (by kernel_rfl) (by decide)
theorem lx:Sc Tryz.prog 163:=⟨⟨_,Tryz.underlying163,rfl⟩,bL (by kernel_rfl)⟩
abbrev wb:Nat:=204
def sO (r:Ptr):Value:=(pv r)
theorem ma:Slc Tryz.prog 163 93 1:=⟨Tryz.underlying163,bL (by kernel_rfl)⟩
theorem wH:Slc Tryz.prog 93 22 1:=⟨Tryz.underlying93,bL (by kernel_rfl)⟩
theorem sc_93:Sc Tryz.prog 93:=⟨⟨_,Tryz.underlying93,rfl⟩,bL (by kernel_rfl)⟩
theorem en_204:aM Tryz.prog 204:=⟨_,Tryz.func204,by decide,rfl⟩
abbrev mi:Nat:=179
theorem en_179:aM Tryz.prog 179:=⟨_,Tryz.func179,by decide,rfl⟩
abbrev iy:Nat:=161
theorem inf_22:∃ i,Tryz.prog.info? 22 = some i∧i.size = 1:=bL (by kernel_rfl)
abbrev fL:Nat:=162
theorem en_162:aM Tryz.prog 162:=⟨_,Tryz.func162,by decide,rfl⟩
theorem en_161:aM Tryz.prog 161:=⟨_,Tryz.func161,by decide,rfl⟩
abbrev qy:Nat:=163
abbrev qz:Nat:=164
def bk (r:ac × Bool):Value:=.tuple #[(.agg (ac.C r.1).toArray),(.bool r.2)]
theorem di:∃ i,Tryz.prog.info? 30 = some i∧i.zero = some (.agg (ac.C (⟨0,0⟩:ac)).toArray):=lb (by kernel_rfl)
theorem tN  : ∀ w,(Instr.build 30 #[]).run Tryz.prog w = .ok (.agg (ac.C (⟨0,0⟩:ac)).toArray) w:=fun _=>by kernel_rfl
theorem cH:Ag Tryz.prog 30 2:=⟨⟨_,Tryz.underlying30,rfl⟩,bL (by kernel_rfl)⟩
theorem bS:∃ i,Tryz.prog.info? 30 = some i∧i.size = 2:=bL (by kernel_rfl)
theorem ky (y1:Int):∀ w,(Instr.build 30 #[(1,(.int .u64 y1))]).run Tryz.prog w = .ok (.agg (ac.C (⟨0,y1⟩:ac)).toArray) w:=fun _=>by kernel_rfl
theorem mB:Fld Tryz.prog 157 1 3:=bX (m:=1) Tryz.underlying157 rfl rfl (by kernel_rfl) (by decide)
theorem xa:Sc Tryz.prog 152:=⟨⟨_,Tryz.underlying152,rfl⟩,bL (by kernel_rfl)⟩
theorem en_163:aM Tryz.prog 163:=⟨_,Tryz.func163,by decide,rfl⟩
theorem en_164:aM Tryz.prog 164:=⟨_,Tryz.func164,by decide,rfl⟩
theorem en_64:aM Tryz.prog 64:=⟨_,Tryz.func64,by decide,rfl⟩
abbrev fe:Nat:=114
def eP (r:ac × am):Value:=.tuple #[(.agg (ac.C r.1).toArray),(.agg (am.C r.2).toArray)]
theorem jy (y0:Int):∀ w,(Instr.build 30 #[(0,(.int .i64 y0))]).run Tryz.prog w = .ok (.agg (ac.C (⟨y0,0⟩:ac)).toArray) w:=fun _=>by kernel_rfl
theorem il:Fld Tryz.prog 109 2 2:=bX (m:=1) Tryz.underlying109 rfl rfl (by kernel_rfl) (by decide)
theorem slc_104:Slc Tryz.prog 104 114 1:=⟨Tryz.underlying104,bL (by kernel_rfl)⟩
theorem vj:aM Tryz.prog 114:=⟨_,Tryz.func114,by decide,rfl⟩
theorem en_113:aM Tryz.prog 113:=⟨_,Tryz.func113,by decide,rfl⟩
theorem sc_114:Sc Tryz.prog 114:=⟨⟨_,Tryz.underlying114,rfl⟩,bL (by kernel_rfl)⟩
theorem uW:Sc Tryz.prog 104:=⟨⟨_,Tryz.underlying104,rfl⟩,bL (by kernel_rfl)⟩
theorem en_112:aM Tryz.prog 112:=⟨_,Tryz.func112,by decide,rfl⟩
theorem en_111:aM Tryz.prog 111:=⟨_,Tryz.func111,by decide,rfl⟩
theorem en_107:aM Tryz.prog 107:=⟨_,Tryz.func107,by decide,rfl⟩
theorem en_110:aM Tryz.prog 110:=⟨_,Tryz.func110,by decide,rfl⟩
abbrev nJ:Nat:=65
def R_ (_:Unit):Value:=.tuple #[]
theorem fld_120_0:Fld Tryz.prog 120 0 0:=bX (m:=1) Tryz.underlying120 rfl rfl (by kernel_rfl) (by decide)
theorem fu:Slc Tryz.prog 42 56 16:=⟨Tryz.underlying42,bL (by kernel_rfl)⟩
theorem db:Fld Tryz.prog 56 4 8:=bX (m:=1) Tryz.underlying56 rfl rfl (by kernel_rfl) (by decide)
theorem dM:Fld Tryz.prog 56 5 9:=bX (m:=1) Tryz.underlying56 rfl rfl (by kernel_rfl) (by decide)
theorem kE:Fld Tryz.prog 56 6 10:=bX (m:=2) Tryz.underlying56 rfl rfl (by kernel_rfl) (by decide)
theorem gt:Fld Tryz.prog 56 7 12:=bX (m:=4) Tryz.underlying56 rfl rfl (by kernel_rfl) (by decide)
abbrev ms:Nat:=66
abbrev pb:Nat:=67
def rh (r:Sl):Value:=(sv r)
abbrev t_2_tlb_line:Nat:=170
def R_tlb_line (r:cm):Value:=(.agg (cm.C r).toArray)
theorem zero_169:∃ i,Tryz.prog.info? 169 = some i∧i.zero = some (.agg (cm.C (⟨(⟨0,0,0,0⟩:am),0⟩:cm)).toArray):=lb (by kernel_rfl)
abbrev qM:Nat:=76
theorem ag_170:Ag Tryz.prog 170 10:=⟨⟨_,Tryz.underlying170,rfl⟩,bL (by kernel_rfl)⟩
abbrev rp:Nat:=87
theorem slc_76:Slc Tryz.prog 76 54 4:=⟨Tryz.underlying76,bL (by kernel_rfl)⟩
theorem en_87:aM Tryz.prog 87:=⟨_,Tryz.func87,by decide,rfl⟩
abbrev lj:Nat:=68
theorem fld_167_1:Fld Tryz.prog 167 1 1:=bX (m:=1) Tryz.underlying167 rfl rfl (by kernel_rfl) (by decide)
abbrev lm:Nat:=118
def gU (r:Int):Value:=(.int .u64 r)
theorem fld_167_0:Fld Tryz.prog 167 0 0:=bX (m:=1) Tryz.underlying167 rfl rfl (by kernel_rfl) (by decide)
theorem sc_39:Sc Tryz.prog 39:=⟨⟨_,Tryz.underlying39,rfl⟩,bL (by kernel_rfl)⟩
abbrev gb:Nat:=119
theorem en_119:aM Tryz.prog 119:=⟨_,Tryz.func119,by decide,rfl⟩
theorem inf_39:∃ i,Tryz.prog.info? 39 = some i∧i.size = 1:=bL (by kernel_rfl)
theorem en_118:aM Tryz.prog 118:=⟨_,Tryz.func118,by decide,rfl⟩
abbrev jj:Nat:=69
theorem mA:Fld Tryz.prog 165 0 0:=bX (m:=1) Tryz.underlying165 rfl rfl (by kernel_rfl) (by decide)
abbrev lL:Nat:=168
abbrev tx:Nat:=218
theorem en_218:aM Tryz.prog 218:=⟨_,Tryz.func218,by decide,rfl⟩
abbrev uH:Nat:=195
abbrev pU:Nat:=196
theorem en_195:aM Tryz.prog 195:=⟨_,Tryz.func195,by decide,rfl⟩
theorem en_196:aM Tryz.prog 196:=⟨_,Tryz.func196,by decide,rfl⟩
abbrev eQ:Nat:=169
abbrev be:Nat:=93
def cg (r:Sl):Value:=(sv r)
abbrev sm:Nat:=198
abbrev lf:Nat:=3
abbrev uY:Nat:=197
theorem en_198:aM Tryz.prog 198:=⟨_,Tryz.func198,by decide,rfl⟩
abbrev dD:Nat:=170
theorem inf_93:∃ i,Tryz.prog.info? 93 = some i∧i.size = 1:=bL (by kernel_rfl)
theorem en_170:aM Tryz.prog 170:=⟨_,Tryz.func170,by decide,rfl⟩
theorem en_169:aM Tryz.prog 169:=⟨_,Tryz.func169,by decide,rfl⟩
theorem en_168:aM Tryz.prog 168:=⟨_,Tryz.func168,by decide,rfl⟩
abbrev qk:Nat:=120
theorem en_120:aM Tryz.prog 120:=⟨_,Tryz.func120,by decide,rfl⟩
abbrev nv:Nat:=70
abbrev ji:Nat:=121
theorem en_121:aM Tryz.prog 121:=⟨_,Tryz.func121,by decide,rfl⟩
abbrev jB:Nat:=71
abbrev n_plain_fails:Nat:=123
theorem build_36_0_1_2 (y0:Int) (y1:Int) (y2:Int):∀ w,(Instr.build 36 #[(0,(.int .i64 y0)),(1,(.int .i64 y1)),(2,(.int .i64 y2))]).run Tryz.prog w = .ok (.agg (aC.C (⟨y0,y1,y2,0⟩:aC)).toArray) w:=fun _=>by kernel_rfl
abbrev jK:Nat:=142
abbrev kq:Nat:=199
theorem ov:Fld Tryz.prog 210 0 0:=bX (m:=1) Tryz.underlying210 rfl rfl (by kernel_rfl) (by decide)
theorem en_199:aM Tryz.prog 199:=⟨_,Tryz.func199,by decide,rfl⟩
abbrev jH:Nat:=171
abbrev t_none:Nat:=0
abbrev tu:Nat:=172
theorem ow:Fld Tryz.prog 157 3 5:=bX (m:=1) Tryz.underlying157 rfl rfl (by kernel_rfl) (by decide)
theorem en_142:aM Tryz.prog 142:=⟨_,Tryz.func142,by decide,rfl⟩
theorem en_172:aM Tryz.prog 172:=⟨_,Tryz.func172,by decide,rfl⟩
theorem en_171:aM Tryz.prog 171:=⟨_,Tryz.func171,by decide,rfl⟩
theorem sc_154:Sc Tryz.prog 154:=⟨⟨_,Tryz.underlying154,rfl⟩,bL (by kernel_rfl)⟩
abbrev lG:Nat:=124
theorem tD:Fld Tryz.prog 36 0 0:=bX (m:=1) Tryz.underlying36 rfl rfl (by kernel_rfl) (by decide)
theorem build_36_0_1_2_3 (y0:Int) (y1:Int) (y2:Int) (y3:Int):∀ w,(Instr.build 36 #[(0,(.int .i64 y0)),(1,(.int .i64 y1)),(2,(.int .i64 y2)),(3,(.int .i64 y3))]).run Tryz.prog w = .ok (.agg (aC.C (⟨y0,y1,y2,y3⟩:aC)).toArray) w:=fun _=>by kernel_rfl
abbrev iB:Nat:=143
abbrev jI:Nat:=200
theorem en_200:aM Tryz.prog 200:=⟨_,Tryz.func200,by decide,rfl⟩
abbrev mg:Nat:=173
def cW (r:Sl):Value:=(sv r)
abbrev lw:Nat:=205
def R_api_Cap (r:aC):Value:=(.agg (aC.C r).toArray)
theorem vn (y0:Int) (y1:Int):∀ w,(Instr.build 233 #[(0,(.int .i64 y0)),(1,(.int .i64 y1))]).run Tryz.prog w = .ok (.agg (aH.C (⟨y0,y1⟩:aH)).toArray) w:=fun _=>by kernel_rfl
theorem zero_233:∃ i,Tryz.prog.info? 233 = some i∧i.zero = some (.agg (aH.C (⟨0,0⟩:aH)).toArray):=lb (by kernel_rfl)
theorem ag_233:Ag Tryz.prog 233 2:=⟨⟨_,Tryz.underlying233,rfl⟩,bL (by kernel_rfl)⟩
abbrev hZ:Nat:=201
theorem inf_233:∃ i,Tryz.prog.info? 233 = some i∧i.size = 2:=bL (by kernel_rfl)
abbrev kD:Nat:=188
abbrev mw:Nat:=201
theorem slc_201:Slc Tryz.prog 201 233 2:=⟨Tryz.underlying201,bL (by kernel_rfl)⟩
theorem fld_233_0:Fld Tryz.prog 233 0 0:=bX (m:=1) Tryz.underlying233 rfl rfl (by kernel_rfl) (by decide)
theorem fld_233_1:Fld Tryz.prog 233 1 1:=bX (m:=1) Tryz.underlying233 rfl rfl (by kernel_rfl) (by decide)
abbrev gQ:Nat:=202
abbrev lp:Nat:=190
def aH.eqb (x y:aH):Bool:=((x.fEnv == y.fEnv) && ((x.fSlot == y.fSlot) && true))
theorem eqr_233 (n:Nat) (x y:aH):EqR Tryz.prog (n + 2) 233 (.agg (aH.C x).toArray) (.agg (aH.C y).toArray) (aH.eqb x y):=xD Tryz.underlying233 (by kernel_rfl) (lT (by decide) (ib aS rfl) (ib aS rfl) (jC (n:=n + 0) Tryz.underlying3) (lT (by decide) (ib aS rfl) (ib aS rfl) (jC (n:=n + 0) Tryz.underlying3) eqf_nil))
theorem eqg_233:Tryz.prog.eqGuardType Tryz.prog.depth 233 = false:=by kernel_rfl
theorem en_190:aM Tryz.prog 190:=⟨_,Tryz.func190,by decide,rfl⟩
abbrev gR:Nat:=203
def dA (r:Sl × Int):Value:=.tuple #[(sv r.1),(.int .i64 r.2)]
theorem en_202:aM Tryz.prog 202:=⟨_,Tryz.func202,by decide,rfl⟩
theorem en_188:aM Tryz.prog 188:=⟨_,Tryz.func188,by decide,rfl⟩
abbrev rZ:Nat:=233
theorem en_201:aM Tryz.prog 201:=⟨_,Tryz.func201,by decide,rfl⟩
abbrev sc:Nat:=155
abbrev my:Nat:=174
theorem en_174:aM Tryz.prog 174:=⟨_,Tryz.func174,by decide,rfl⟩
theorem en_173:aM Tryz.prog 173:=⟨_,Tryz.func173,by decide,rfl⟩
theorem en_143:aM Tryz.prog 143:=⟨_,Tryz.func143,by decide,rfl⟩
abbrev iJ:Nat:=125
def jD (r:al × Int):Value:=.tuple #[(.agg (al.C r.1).toArray),(.int .i64 r.2)]
abbrev jh:Nat:=128
abbrev lO:Nat:=189
abbrev lq:Nat:=147
theorem en_147:aM Tryz.prog 147:=⟨_,Tryz.func147,by decide,rfl⟩
abbrev nL:Nat:=175
abbrev tZ:Nat:=80
abbrev mf:Nat:=176
abbrev nu:Nat:=177
def hU (r:ac):Value:=(.agg (ac.C r).toArray)
theorem en_128:aM Tryz.prog 128:=⟨_,Tryz.func128,by decide,rfl⟩
theorem en_177:aM Tryz.prog 177:=⟨_,Tryz.func177,by decide,rfl⟩
theorem en_176:aM Tryz.prog 176:=⟨_,Tryz.func176,by decide,rfl⟩
theorem en_175:aM Tryz.prog 175:=⟨_,Tryz.func175,by decide,rfl⟩
abbrev kR:Nat:=126
theorem px (y0:Int) (y1:Int) (y2:Int):∀ w,(Instr.build 79 #[(0,(.int .i64 y0)),(1,(.int .i64 y1)),(2,(.int .i64 y2))]).run Tryz.prog w = .ok (.agg (al.C (⟨y0,y1,y2⟩:al)).toArray) w:=fun _=>by kernel_rfl
abbrev mQ:Nat:=127
abbrev kQ:Nat:=178
theorem en_178:aM Tryz.prog 178:=⟨_,Tryz.func178,by decide,rfl⟩
abbrev kr:Nat:=129
abbrev n_pred_Holds:Nat:=148
theorem rB:aM Tryz.prog 123:=⟨_,Tryz.func123,by decide,rfl⟩
theorem en_148:aM Tryz.prog 148:=⟨_,Tryz.func148,by decide,rfl⟩
abbrev lF:Nat:=130
abbrev mO:Nat:=131
theorem en_126:aM Tryz.prog 126:=⟨_,Tryz.func126,by decide,rfl⟩
theorem en_124:aM Tryz.prog 124:=⟨_,Tryz.func124,by decide,rfl⟩
theorem en_125:aM Tryz.prog 125:=⟨_,Tryz.func125,by decide,rfl⟩
theorem en_127:aM Tryz.prog 127:=⟨_,Tryz.func127,by decide,rfl⟩
theorem en_129:aM Tryz.prog 129:=⟨_,Tryz.func129,by decide,rfl⟩
theorem en_130:aM Tryz.prog 130:=⟨_,Tryz.func130,by decide,rfl⟩
theorem en_131:aM Tryz.prog 131:=⟨_,Tryz.func131,by decide,rfl⟩
abbrev dB:Nat:=72
theorem en_66:aM Tryz.prog 66:=⟨_,Tryz.func66,by decide,rfl⟩
theorem en_65:aM Tryz.prog 65:=⟨_,Tryz.func65,by decide,rfl⟩
theorem fld_109_4:Fld Tryz.prog 109 4 4:=bX (m:=1) Tryz.underlying109 rfl rfl (by kernel_rfl) (by decide)
theorem fld_120_4:Fld Tryz.prog 120 4 8:=bX (m:=1) Tryz.underlying120 rfl rfl (by kernel_rfl) (by decide)
theorem fld_109_3:Fld Tryz.prog 109 3 3:=bX (m:=1) Tryz.underlying109 rfl rfl (by kernel_rfl) (by decide)
theorem en_70:aM Tryz.prog 70:=⟨_,Tryz.func70,by decide,rfl⟩
theorem sc_105:Sc Tryz.prog 105:=⟨⟨_,Tryz.underlying105,rfl⟩,bL (by kernel_rfl)⟩
theorem en_69:aM Tryz.prog 69:=⟨_,Tryz.func69,by decide,rfl⟩
theorem sc_106:Sc Tryz.prog 106:=⟨⟨_,Tryz.underlying106,rfl⟩,bL (by kernel_rfl)⟩
theorem en_68:aM Tryz.prog 68:=⟨_,Tryz.func68,by decide,rfl⟩
theorem inf_4:∃ i,Tryz.prog.info? 4 = some i∧i.size = 1:=bL (by kernel_rfl)
theorem en_72:aM Tryz.prog 72:=⟨_,Tryz.func72,by decide,rfl⟩
theorem en_71:aM Tryz.prog 71:=⟨_,Tryz.func71,by decide,rfl⟩
theorem en_67:aM Tryz.prog 67:=⟨_,Tryz.func67,by decide,rfl⟩
abbrev mt:Nat:=28
abbrev li:Nat:=132
theorem en_132:aM Tryz.prog 132:=⟨_,Tryz.func132,by decide,rfl⟩
abbrev mj:Nat:=97
abbrev kv:Nat:=98
theorem en_98:aM Tryz.prog 98:=⟨_,Tryz.func98,by decide,rfl⟩
theorem en_97:aM Tryz.prog 97:=⟨_,Tryz.func97,by decide,rfl⟩
abbrev mu:Nat:=46
abbrev qm:Nat:=73
theorem en_28:aM Tryz.prog 28:=⟨_,Tryz.func28,by decide,rfl⟩
theorem en_46:aM Tryz.prog 46:=⟨_,Tryz.func46,by decide,rfl⟩
theorem en_73:aM Tryz.prog 73:=⟨_,Tryz.func73,by decide,rfl⟩
abbrev hG:Nat:=29
theorem fT:Fld Tryz.prog 56 0 0:=bX (m:=1) Tryz.underlying56 rfl rfl (by kernel_rfl) (by decide)
theorem en_20:aM Tryz.prog 20:=⟨_,Tryz.func20,by decide,rfl⟩
theorem en_29:aM Tryz.prog 29:=⟨_,Tryz.func29,by decide,rfl⟩
theorem en_27:aM Tryz.prog 27:=⟨_,Tryz.func27,by decide,rfl⟩
abbrev eN:Nat:=16
theorem lS:Fld Tryz.prog 25 0 0:=bX (m:=1) Tryz.underlying25 rfl rfl (by kernel_rfl) (by decide)
theorem kF:Fld Tryz.prog 56 1 1:=bX (m:=1) Tryz.underlying56 rfl rfl (by kernel_rfl) (by decide)
theorem gu:Fld Tryz.prog 56 3 7:=bX (m:=1) Tryz.underlying56 rfl rfl (by kernel_rfl) (by decide)
abbrev n_hist_one:Nat:=61
abbrev jE:Nat:=61
def R_map_int_bool (r:(Option Nat)):Value:=(.map r)
abbrev hY:Nat:=95
def R_map_int_int (r:(Option Nat)):Value:=(.map r)
theorem zero_56:∃ i,Tryz.prog.info? 56 = some i∧i.zero = some (.agg (aB.C (⟨0,0,(⟨0,0,0,0,0⟩:ai),0,0,0,(⟨0,0⟩:ac),(⟨0,0,0,0⟩:am)⟩:aB)).toArray):=lb (by kernel_rfl)
theorem ag_56:Ag Tryz.prog 56 16:=⟨⟨_,Tryz.underlying56,rfl⟩,bL (by kernel_rfl)⟩
theorem mK:Ag Tryz.prog 25 3:=⟨⟨_,Tryz.underlying25,rfl⟩,bL (by kernel_rfl)⟩
theorem en_61:aM Tryz.prog 61:=⟨_,Tryz.func61,by decide,rfl⟩
theorem inf_56:∃ i,Tryz.prog.info? 56 = some i∧i.size = 16:=bL (by kernel_rfl)
abbrev qn:Nat:=25
abbrev qA:Nat:=92
abbrev ny:Nat:=93
abbrev cc:Nat:=181
abbrev kC:Nat:=182
theorem en_182:aM Tryz.prog 182:=⟨_,Tryz.func182,by decide,rfl⟩
theorem en_181:aM Tryz.prog 181:=⟨_,Tryz.func181,by decide,rfl⟩
abbrev lE:Nat:=137
theorem en_137:aM Tryz.prog 137:=⟨_,Tryz.func137,by decide,rfl⟩
abbrev fP:Nat:=94
abbrev n_cmp_isNaN_int:Nat:=138
theorem en_138:aM Tryz.prog 138:=⟨_,Tryz.func138,by decide,rfl⟩
abbrev uI:Nat:=96
theorem en_96:aM Tryz.prog 96:=⟨_,Tryz.func96,by decide,rfl⟩
abbrev rx:Nat:=95
theorem en_94:aM Tryz.prog 94:=⟨_,Tryz.func94,by decide,rfl⟩
theorem en_92:aM Tryz.prog 92:=⟨_,Tryz.func92,by decide,rfl⟩
abbrev pj:Nat:=44
def tS (r:Ptr):Value:=(pv r)
theorem build_212  : ∀ w,(Instr.build 212 #[]).run Tryz.prog w = .ok (.agg (sN.C (⟨(⟨none,0,0,none⟩:Sl)⟩:sN)).toArray) w:=fun _=>by kernel_rfl
abbrev qe:Nat:=163
def R_SSuint64 (r:Sl):Value:=(sv r)
theorem inf_163:∃ i,Tryz.prog.info? 163 = some i∧i.size = 1:=bL (by kernel_rfl)
abbrev lY:Nat:=212
abbrev wa:Nat:=104
def sC (r:Ptr):Value:=(pv r)
theorem build_210_0 (y0:Sl):∀ w,(Instr.build 210 #[(0,(sv y0))]).run Tryz.prog w = .ok (.agg (oy.C (⟨y0⟩:oy)).toArray) w:=fun _=>by kernel_rfl
abbrev qJ:Nat:=210
abbrev xj:Nat:=105
def sE (r:Ptr):Value:=(pv r)
abbrev t_S_8_api_Cap:Nat:=206
def R_S_8_api_Cap (r:Sl):Value:=(sv r)
theorem build_208_0 (y0:Sl):∀ w,(Instr.build 208 #[(0,(sv y0))]).run Tryz.prog w = .ok (.agg (oB.C (⟨y0⟩:oB)).toArray) w:=fun _=>by kernel_rfl
abbrev nU:Nat:=208
abbrev xl:Nat:=106
def dP (r:Ptr):Value:=(pv r)
theorem tE:Fld Tryz.prog 25 2 2:=bX (m:=1) Tryz.underlying25 rfl rfl (by kernel_rfl) (by decide)
theorem build_157_0_1_3_4 (y0:au) (y1:Ptr) (y3:Ptr) (y4:Ptr):∀ w,(Instr.build 157 #[(0,(.agg (au.C y0).toArray)),(1,(pv y1)),(3,(pv y3)),(4,(pv y4))]).run Tryz.prog w = .ok (.agg (gw.C (⟨y0,y1,(⟨none,0,0,none⟩:Sl),y3,y4⟩:gw)).toArray) w:=fun _=>by kernel_rfl
abbrev eU:Nat:=153
def nA (r:Sl):Value:=(sv r)
theorem inf_153:∃ i,Tryz.prog.info? 153 = some i∧i.size = 1:=bL (by kernel_rfl)
abbrev cD:Nat:=157
theorem en_106:aM Tryz.prog 106:=⟨_,Tryz.func106,by decide,rfl⟩
theorem en_105:aM Tryz.prog 105:=⟨_,Tryz.func105,by decide,rfl⟩
theorem en_104:aM Tryz.prog 104:=⟨_,Tryz.func104,by decide,rfl⟩
abbrev od:Nat:=56
theorem nk:Fld Tryz.prog 56 2 2:=bX (m:=5) Tryz.underlying56 rfl rfl (by kernel_rfl) (by decide)
abbrev n_judge_user:Nat:=139
abbrev gJ:Nat:=180
theorem en_180:aM Tryz.prog 180:=⟨_,Tryz.func180,by decide,rfl⟩
abbrev ru:Nat:=136
abbrev mP:Nat:=207
theorem en_136:aM Tryz.prog 136:=⟨_,Tryz.func136,by decide,rfl⟩
theorem en_207:aM Tryz.prog 207:=⟨_,Tryz.func207,by decide,rfl⟩
theorem en_56:aM Tryz.prog 56:=⟨_,Tryz.func56,by decide,rfl⟩
abbrev gP:Nat:=184
abbrev tw:Nat:=221
abbrev n_hist_Over:Nat:=206
def qx (r:Sl):Value:=(sv r)
theorem we:Fld Tryz.prog 196 2 4:=bX (m:=1) Tryz.underlying196 rfl rfl (by kernel_rfl) (by decide)
abbrev qd:Nat:=240
theorem fld_196_0:Fld Tryz.prog 196 0 0:=bX (m:=1) Tryz.underlying196 rfl rfl (by kernel_rfl) (by decide)
theorem en_184:aM Tryz.prog 184:=⟨_,Tryz.func184,by decide,rfl⟩
theorem en_206:aM Tryz.prog 206:=⟨_,Tryz.func206,by decide,rfl⟩
abbrev lM:Nat:=183
theorem fld_196_1:Fld Tryz.prog 196 1 1:=bX (m:=3) Tryz.underlying196 rfl rfl (by kernel_rfl) (by decide)
def ac.eqb (x y:ac):Bool:=((x.fErr == y.fErr) && ((x.fVal == y.fVal) && true))
theorem oS:Sc Tryz.prog 28:=⟨⟨_,Tryz.underlying28,rfl⟩,bL (by kernel_rfl)⟩
theorem eqr_30 (n:Nat) (x y:ac):EqR Tryz.prog (n + 2) 30 (.agg (ac.C x).toArray) (.agg (ac.C y).toArray) (ac.eqb x y):=xD Tryz.underlying30 (by kernel_rfl) (lT (by decide) (ib oS rfl) (ib oS rfl) (jC (n:=n + 0) Tryz.underlying28) (lT (by decide) (ib cy rfl) (ib cy rfl) (jC (n:=n + 0) Tryz.underlying22) eqf_nil))
theorem eqg_30:Tryz.prog.eqGuardType Tryz.prog.depth 30 = false:=by kernel_rfl
def am.eqb (x y:am):Bool:=((x.fEnv == y.fEnv) && ((x.fPage == y.fPage) && ((x.fFrame == y.fFrame) && ((x.fRights == y.fRights) && true))))
theorem eqr_54 (n:Nat) (x y:am):EqR Tryz.prog (n + 2) 54 (.agg (am.C x).toArray) (.agg (am.C y).toArray) (am.eqb x y):=xD Tryz.underlying54 (by kernel_rfl) (lT (by decide) (ib aS rfl) (ib aS rfl) (jC (n:=n + 0) Tryz.underlying3) (lT (by decide) (ib aS rfl) (ib aS rfl) (jC (n:=n + 0) Tryz.underlying3) (lT (by decide) (ib aS rfl) (ib aS rfl) (jC (n:=n + 0) Tryz.underlying3) (lT (by decide) (ib aS rfl) (ib aS rfl) (jC (n:=n + 0) Tryz.underlying3) eqf_nil))))
theorem eqg_54:Tryz.prog.eqGuardType Tryz.prog.depth 54 = false:=by kernel_rfl
theorem slc_240:Slc Tryz.prog 240 79 3:=⟨Tryz.underlying240,bL (by kernel_rfl)⟩
theorem kG:Fld Tryz.prog 30 0 0:=bX (m:=1) Tryz.underlying30 rfl rfl (by kernel_rfl) (by decide)
theorem fld_30_1:Fld Tryz.prog 30 1 1:=bX (m:=1) Tryz.underlying30 rfl rfl (by kernel_rfl) (by decide)
theorem en_183:aM Tryz.prog 183:=⟨_,Tryz.func183,by decide,rfl⟩
abbrev lN:Nat:=140
abbrev nK:Nat:=141
theorem build_196_0_1_2 (y0:Sl) (y1:au) (y2:Ptr):∀ w,(Instr.build 196 #[(0,(sv y0)),(1,(.agg (au.C y1).toArray)),(2,(pv y2))]).run Tryz.prog w = .ok (.agg (kO.C (⟨y0,y1,y2⟩:kO)).toArray) w:=fun _=>by kernel_rfl
theorem en_141:aM Tryz.prog 141:=⟨_,Tryz.func141,by decide,rfl⟩
theorem en_140:aM Tryz.prog 140:=⟨_,Tryz.func140,by decide,rfl⟩
theorem en_139:aM Tryz.prog 139:=⟨_,Tryz.func139,by decide,rfl⟩
theorem en_44:aM Tryz.prog 44:=⟨_,Tryz.func44,by decide,rfl⟩
abbrev dn:Nat:=196
theorem en_25:aM Tryz.prog 25:=⟨_,Tryz.func25,by decide,rfl⟩
abbrev uE:Nat:=99
theorem en_99:aM Tryz.prog 99:=⟨_,Tryz.func99,by decide,rfl⟩
abbrev pf:Nat:=47
abbrev ph:Nat:=48
theorem en_48:aM Tryz.prog 48:=⟨_,Tryz.func48,by decide,rfl⟩
theorem en_47:aM Tryz.prog 47:=⟨_,Tryz.func47,by decide,rfl⟩
abbrev uZ:Nat:=19
def pz (r:Ptr):Value:=(pv r)
theorem build_165_0 (y0:Sl):∀ w,(Instr.build 165 #[(0,(sv y0))]).run Tryz.prog w = .ok (.agg (oz.C (⟨y0⟩:oz)).toArray) w:=fun _=>by kernel_rfl
abbrev lu:Nat:=165
abbrev tv:Nat:=57
def iV (r:Ptr):Value:=(pv r)
theorem build_167_1 (y1:Sl):∀ w,(Instr.build 167 #[(1,(sv y1))]).run Tryz.prog w = .ok (.agg (jV.C (⟨(⟨none,0,0,none⟩:Sl),y1⟩:jV)).toArray) w:=fun _=>by kernel_rfl
abbrev ip:Nat:=167
abbrev oh:Nat:=58
abbrev rr:Nat:=108
def gN (r:Ptr):Value:=(pv r)
abbrev qc:Nat:=173
theorem en_108:aM Tryz.prog 108:=⟨_,Tryz.func108,by decide,rfl⟩
abbrev iS:Nat:=59
def sD (r:Ptr):Value:=(pv r)
abbrev ne:Nat:=107
def qE (r:Sl):Value:=(sv r)
theorem mU (y0:Ptr) (y1:Int) (y3:Ptr) (y4:Ptr) (y5:Sl):∀ w,(Instr.build 109 #[(0,(pv y0)),(1,(.int .i64 y1)),(3,(pv y3)),(4,(pv y4)),(5,(sv y5))]).run Tryz.prog w = .ok (.agg (fN.C (⟨y0,y1,(⟨none,0,0,none⟩:Sl),y3,y4,y5,(⟨none,0,0,none⟩:Sl),0⟩:fN)).toArray) w:=fun _=>by kernel_rfl
abbrev bU:Nat:=104
def dS (r:Sl):Value:=(sv r)
theorem inf_104:∃ i,Tryz.prog.info? 104 = some i∧i.size = 1:=bL (by kernel_rfl)
theorem en_59:aM Tryz.prog 59:=⟨_,Tryz.func59,by decide,rfl⟩
abbrev cj:Nat:=109
theorem en_58:aM Tryz.prog 58:=⟨_,Tryz.func58,by decide,rfl⟩
theorem en_57:aM Tryz.prog 57:=⟨_,Tryz.func57,by decide,rfl⟩
abbrev xk:Nat:=23
def ii (r:Sl):Value:=(sv r)
abbrev lv:Nat:=45
theorem build_51_0_1 (y0:Int) (y1:Int):∀ w,(Instr.build 51 #[(0,(.int .i64 y0)),(1,(.int .i64 y1))]).run Tryz.prog w = .ok (.agg (ci.C (⟨y0,y1,0,(⟨0,0,0,0,0⟩:ai),0,0⟩:ci)).toArray) w:=fun _=>by kernel_rfl
abbrev vd:Nat:=49
abbrev mh:Nat:=103
theorem en_103:aM Tryz.prog 103:=⟨_,Tryz.func103,by decide,rfl⟩
abbrev mR:Nat:=54
abbrev xg:Nat:=185
theorem en_185:aM Tryz.prog 185:=⟨_,Tryz.func185,by decide,rfl⟩
abbrev n_user_Do:Nat:=144
def iL (r:Value):Value:=(r)
theorem build_254_0_1 (y0:Int) (y1:Int):∀ w,(Instr.build 254 #[(0,(.int .i64 y0)),(1,(.int .i64 y1))]).run Tryz.prog w = .ok (.agg (cd.C (⟨y0,y1,(⟨0,0,0,0,0⟩:ai),Value.nilIface⟩:cd)).toArray) w:=fun _=>by kernel_rfl
abbrev bg:Nat:=252
abbrev nT:Nat:=254
abbrev kK:Nat:=150
abbrev gn:Nat:=191
theorem ag_296:Ag Tryz.prog 296 3:=⟨⟨_,Tryz.underlying296,rfl⟩,bL (by kernel_rfl)⟩
abbrev fw:Nat:=233
def fJ (r:aN):Value:=(.agg (aN.C r).toArray)
abbrev cX:Nat:=229
abbrev fC:Nat:=234
abbrev gB:Nat:=199
abbrev jt:Nat:=277
def gx (r:Value × Bool):Value:=.tuple #[(r.1),(.bool r.2)]
abbrev iO:Nat:=279
def gf (r:Value × Bool):Value:=.tuple #[(r.1),(.bool r.2)]
def R_Serror (r:Sl):Value:=(sv r)
theorem slc_280:Slc Tryz.prog 280 199 1:=⟨Tryz.underlying280,bL (by kernel_rfl)⟩
abbrev uF:Nat:=232
theorem en_232:aM Tryz.prog 232:=⟨_,Tryz.func232,by decide,rfl⟩
theorem sc_199:Sc Tryz.prog 199:=⟨⟨_,Tryz.underlying199,rfl⟩,bL (by kernel_rfl)⟩
abbrev qK:Nat:=305
def nR (r:Value × Bool):Value:=.tuple #[(r.1),(.bool r.2)]
theorem zero_296:∃ i,Tryz.prog.info? 296 = some i∧i.zero = some (.agg (aN.C (⟨none,none,0⟩:aN)).toArray):=lb (by kernel_rfl)
abbrev iM:Nat:=230
def R_abi_Kind (r:Int):Value:=(.int .u8 r)
def str_6ae768b9:ByteArray:=⟨#[101,114,114,111,114,115,58,32,42,116,97,114,103,101,116,32,109,117,115,116,32,98,101,32,105,110,116,101,114,102,97,99,101,32,111,114,32,105,109,112,108,101,109,101,110,116,32,101,114,114,111,114]⟩
abbrev vq:Nat:=9
theorem sc_249:Sc Tryz.prog 249:=⟨⟨_,Tryz.underlying249,rfl⟩,bL (by kernel_rfl)⟩
abbrev eX:Nat:=231
def str_ae9b7a08:ByteArray:=⟨#[101,114,114,111,114,115,58,32,116,97,114,103,101,116,32,109,117,115,116,32,98,101,32,97,32,110,111,110,45,110,105,108,32,112,111,105,110,116,101,114]⟩
theorem inf_296:∃ i,Tryz.prog.info? 296 = some i∧i.size = 3:=bL (by kernel_rfl)
def str_53947bae:ByteArray:=⟨#[101,114,114,111,114,115,58,32,116,97,114,103,101,116,32,99,97,110,110,111,116,32,98,101,32,110,105,108]⟩
abbrev uG:Nat:=227
def eO (r:Ptr × Bool):Value:=.tuple #[(pv r.1),(.bool r.2)]
theorem zero_252:∃ i,Tryz.prog.info? 252 = some i∧i.zero = some (pv none):=lb (by kernel_rfl)
theorem sc_252:Sc Tryz.prog 252:=⟨⟨_,Tryz.underlying252,rfl⟩,bL (by kernel_rfl)⟩
abbrev bC:Nat:=290
theorem en_227:aM Tryz.prog 227:=⟨_,Tryz.func227,by decide,rfl⟩
abbrev km:Nat:=222
theorem wd:Fld Tryz.prog 254 0 0:=bX (m:=1) Tryz.underlying254 rfl rfl (by kernel_rfl) (by decide)
theorem en_222:aM Tryz.prog 222:=⟨_,Tryz.func222,by decide,rfl⟩
abbrev uD:Nat:=208
def R_trap_Trap (r:cd):Value:=(.agg (cd.C r).toArray)
theorem en_208:aM Tryz.prog 208:=⟨_,Tryz.func208,by decide,rfl⟩
abbrev n_trap_In:Nat:=186
theorem xE:aM Tryz.prog 150:=⟨_,Tryz.func150,by decide,rfl⟩
theorem en_186:aM Tryz.prog 186:=⟨_,Tryz.func186,by decide,rfl⟩
abbrev nH:Nat:=145
def pA (r:Ptr):Value:=(pv r)
theorem build_285_0 (y0:Int):∀ w,(Instr.build 285 #[(0,(.int .u64 y0))]).run Tryz.prog w = .ok (.agg (oA.C (⟨y0,0⟩:oA)).toArray) w:=fun _=>by kernel_rfl
abbrev qL:Nat:=285
abbrev tz:Nat:=209
def tR (r:Ptr):Value:=(pv r)
theorem build_287_0_1 (y0:Ptr) (y1:Ptr):∀ w,(Instr.build 287 #[(0,(pv y0)),(1,(pv y1))]).run Tryz.prog w = .ok (.agg (kN.C (⟨y0,y1⟩:kN)).toArray) w:=fun _=>by kernel_rfl
abbrev na:Nat:=287
theorem en_209:aM Tryz.prog 209:=⟨_,Tryz.func209,by decide,rfl⟩
abbrev xi:Nat:=210
theorem sJ:Fld Tryz.prog 285 1 1:=bX (m:=1) Tryz.underlying285 rfl rfl (by kernel_rfl) (by decide)
theorem ou:Fld Tryz.prog 285 0 0:=bX (m:=1) Tryz.underlying285 rfl rfl (by kernel_rfl) (by decide)
abbrev pq:Nat:=211
theorem fld_287_0:Fld Tryz.prog 287 0 0:=bX (m:=1) Tryz.underlying287 rfl rfl (by kernel_rfl) (by decide)
theorem en_211:aM Tryz.prog 211:=⟨_,Tryz.func211,by decide,rfl⟩
theorem sc_266:Sc Tryz.prog 266:=⟨⟨_,Tryz.underlying266,rfl⟩,bL (by kernel_rfl)⟩
abbrev nG:Nat:=212
abbrev oe:Nat:=192
theorem en_192:aM Tryz.prog 192:=⟨_,Tryz.func192,by decide,rfl⟩
abbrev mF:Nat:=274
def jW (r:Value × Bool):Value:=.tuple #[(r.1),(.bool r.2)]
abbrev og:Nat:=149
theorem fld_254_3:Fld Tryz.prog 254 3 7:=bX (m:=1) Tryz.underlying254 rfl rfl (by kernel_rfl) (by decide)
abbrev xh:Nat:=228
theorem mD (y0:Int) (y1:Int):∀ w,(Instr.build 34 #[(0,(.int .u64 y0)),(1,(.int .u64 y1))]).run Tryz.prog w = .ok (.agg (ai.C (⟨y0,y1,0,0,0⟩:ai)).toArray) w:=fun _=>by kernel_rfl
theorem fld_254_1:Fld Tryz.prog 254 1 1:=bX (m:=1) Tryz.underlying254 rfl rfl (by kernel_rfl) (by decide)
theorem fld_254_2:Fld Tryz.prog 254 2 2:=bX (m:=5) Tryz.underlying254 rfl rfl (by kernel_rfl) (by decide)
def ai.eqb (x y:ai):Bool:=((x.e0 == y.e0) && ((x.e1 == y.e1) && ((x.e2 == y.e2) && ((x.e3 == y.e3) && ((x.e4 == y.e4) && true)))))
theorem eqr_34 (n:Nat) (x y:ai):EqR Tryz.prog (n + 2) 34 (.agg (ai.C x).toArray) (.agg (ai.C y).toArray) (ai.eqb x y):=eqr_arr Tryz.underlying34 inf_22 ⟨_,_,_,_,(ib cy rfl),(ib cy rfl),(jC (n:=n + 0) Tryz.underlying22),⟨_,_,_,_,(ib cy rfl),(ib cy rfl),(jC (n:=n + 0) Tryz.underlying22),⟨_,_,_,_,(ib cy rfl),(ib cy rfl),(jC (n:=n + 0) Tryz.underlying22),⟨_,_,_,_,(ib cy rfl),(ib cy rfl),(jC (n:=n + 0) Tryz.underlying22),⟨_,_,_,_,(ib cy rfl),(ib cy rfl),(jC (n:=n + 0) Tryz.underlying22),rfl,rfl⟩,rfl⟩,rfl⟩,rfl⟩,rfl⟩
theorem eqg_34:Tryz.prog.eqGuardType Tryz.prog.depth 34 = false:=by kernel_rfl
def dY (r:ByteArray):Value:=(.string r)
def oF:ByteArray:=⟨#[116,114,97,112,32,51,58,32,116,114,97,112,32,51]⟩
theorem en_149:aM Tryz.prog 149:=⟨_,Tryz.func149,by decide,rfl⟩
theorem en_228:aM Tryz.prog 228:=⟨_,Tryz.func228,by decide,rfl⟩
abbrev lJ:Nat:=223
theorem en_223:aM Tryz.prog 223:=⟨_,Tryz.func223,by decide,rfl⟩
abbrev lK:Nat:=213
abbrev mv:Nat:=224
theorem fld_287_1:Fld Tryz.prog 287 1 1:=bX (m:=1) Tryz.underlying287 rfl rfl (by kernel_rfl) (by decide)
theorem en_224:aM Tryz.prog 224:=⟨_,Tryz.func224,by decide,rfl⟩
abbrev ko:Nat:=214
abbrev ry:Nat:=225
theorem en_225:aM Tryz.prog 225:=⟨_,Tryz.func225,by decide,rfl⟩
theorem en_214:aM Tryz.prog 214:=⟨_,Tryz.func214,by decide,rfl⟩
abbrev nF:Nat:=215
abbrev n_word_Args:Nat:=216
abbrev qj:Nat:=217
theorem build_34_0 (y0:Int):∀ w,(Instr.build 34 #[(0,(.int .u64 y0))]).run Tryz.prog w = .ok (.agg (ai.C (⟨y0,0,0,0,0⟩:ai)).toArray) w:=fun _=>by kernel_rfl
theorem jU (y0:Int) (y1:Int) (y2:Int) (y3:Int):∀ w,(Instr.build 34 #[(0,(.int .u64 y0)),(1,(.int .u64 y1)),(2,(.int .u64 y2)),(3,(.int .u64 y3))]).run Tryz.prog w = .ok (.agg (ai.C (⟨y0,y1,y2,y3,0⟩:ai)).toArray) w:=fun _=>by kernel_rfl
theorem en_217:aM Tryz.prog 217:=⟨_,Tryz.func217,by decide,rfl⟩
theorem en_216:aM Tryz.prog 216:=⟨_,Tryz.func216,by decide,rfl⟩
theorem en_215:aM Tryz.prog 215:=⟨_,Tryz.func215,by decide,rfl⟩
theorem en_213:aM Tryz.prog 213:=⟨_,Tryz.func213,by decide,rfl⟩
theorem en_212:aM Tryz.prog 212:=⟨_,Tryz.func212,by decide,rfl⟩
theorem en_210:aM Tryz.prog 210:=⟨_,Tryz.func210,by decide,rfl⟩
abbrev lH:Nat:=187
theorem en_187:aM Tryz.prog 187:=⟨_,Tryz.func187,by decide,rfl⟩
abbrev lI:Nat:=146
theorem tO (y0:Int) (y1:Int) (y2:Int):∀ w,(Instr.build 25 #[(0,(.int .i64 y0)),(1,(.int .i64 y1)),(2,(.int .i64 y2))]).run Tryz.prog w = .ok (.agg (au.C (⟨y0,y1,y2⟩:au)).toArray) w:=fun _=>by kernel_rfl
theorem tM (y0:Int) (y1:Int) (y2:Int):∀ w,(Instr.build 34 #[(0,(.int .u64 y0)),(1,(.int .u64 y1)),(2,(.int .u64 y2))]).run Tryz.prog w = .ok (.agg (ai.C (⟨y0,y1,y2,0,0⟩:ai)).toArray) w:=fun _=>by kernel_rfl
theorem en_54:aM Tryz.prog 54:=⟨_,Tryz.func54,by decide,rfl⟩
theorem en_146:aM Tryz.prog 146:=⟨_,Tryz.func146,by decide,rfl⟩
theorem en_145:aM Tryz.prog 145:=⟨_,Tryz.func145,by decide,rfl⟩
theorem en_144:aM Tryz.prog 144:=⟨_,Tryz.func144,by decide,rfl⟩
abbrev kT:Nat:=100
theorem en_100:aM Tryz.prog 100:=⟨_,Tryz.func100,by decide,rfl⟩
abbrev kU:Nat:=50
theorem slc_45:Slc Tryz.prog 45 51 10:=⟨Tryz.underlying45,bL (by kernel_rfl)⟩
theorem zero_51:∃ i,Tryz.prog.info? 51 = some i∧i.zero = some (.agg (ci.C (⟨0,0,0,(⟨0,0,0,0,0⟩:ai),0,0⟩:ci)).toArray):=lb (by kernel_rfl)
theorem fld_51_0:Fld Tryz.prog 51 0 0:=bX (m:=1) Tryz.underlying51 rfl rfl (by kernel_rfl) (by decide)
theorem fld_51_1:Fld Tryz.prog 51 1 1:=bX (m:=1) Tryz.underlying51 rfl rfl (by kernel_rfl) (by decide)
theorem inf_51:∃ i,Tryz.prog.info? 51 = some i∧i.size = 10:=bL (by kernel_rfl)
theorem ag_51:Ag Tryz.prog 51 10:=⟨⟨_,Tryz.underlying51,rfl⟩,bL (by kernel_rfl)⟩
abbrev pn:Nat:=101
theorem en_101:aM Tryz.prog 101:=⟨_,Tryz.func101,by decide,rfl⟩
abbrev n_fair_Fair:Nat:=51
def nq (r:Sl):Value:=(sv r)
abbrev nc:Nat:=101
abbrev n_twin_View:Nat:=52
theorem zero_25:∃ i,Tryz.prog.info? 25 = some i∧i.zero = some (.agg (au.C (⟨0,0,0⟩:au)).toArray):=lb (by kernel_rfl)
theorem en_19:aM Tryz.prog 19:=⟨_,Tryz.func19,by decide,rfl⟩
theorem en_52:aM Tryz.prog 52:=⟨_,Tryz.func52,by decide,rfl⟩
theorem en_51:aM Tryz.prog 51:=⟨_,Tryz.func51,by decide,rfl⟩
theorem en_50:aM Tryz.prog 50:=⟨_,Tryz.func50,by decide,rfl⟩
theorem en_49:aM Tryz.prog 49:=⟨_,Tryz.func49,by decide,rfl⟩
theorem en_16:aM Tryz.prog 16:=⟨_,Tryz.func16,by decide,rfl⟩
theorem en_23:aM Tryz.prog 23:=⟨_,Tryz.func23,by decide,rfl⟩
theorem inf_25:∃ i,Tryz.prog.info? 25 = some i∧i.size = 3:=bL (by kernel_rfl)
abbrev kS:Nat:=14
theorem en_14:aM Tryz.prog 14:=⟨_,Tryz.func14,by decide,rfl⟩
def R_api_Size (r:au):Value:=(.agg (au.C r).toArray)
abbrev qZ:Nat:=21
abbrev mS:Nat:=22
abbrev rq:Nat:=109
theorem en_109:aM Tryz.prog 109:=⟨_,Tryz.func109,by decide,rfl⟩
abbrev pd:Nat:=60
theorem fld_51_2:Fld Tryz.prog 51 2 2:=bX (m:=1) Tryz.underlying51 rfl rfl (by kernel_rfl) (by decide)
theorem fld_51_3:Fld Tryz.prog 51 3 3:=bX (m:=5) Tryz.underlying51 rfl rfl (by kernel_rfl) (by decide)
theorem fld_51_4:Fld Tryz.prog 51 4 8:=bX (m:=1) Tryz.underlying51 rfl rfl (by kernel_rfl) (by decide)
theorem fld_51_5:Fld Tryz.prog 51 5 9:=bX (m:=1) Tryz.underlying51 rfl rfl (by kernel_rfl) (by decide)
theorem en_60:aM Tryz.prog 60:=⟨_,Tryz.func60,by decide,rfl⟩
abbrev nI:Nat:=24
abbrev gZ:Nat:=26
theorem en_24:aM Tryz.prog 24:=⟨_,Tryz.func24,by decide,rfl⟩
theorem en_26:aM Tryz.prog 26:=⟨_,Tryz.func26,by decide,rfl⟩
theorem en_22:aM Tryz.prog 22:=⟨_,Tryz.func22,by decide,rfl⟩
theorem en_21:aM Tryz.prog 21:=⟨_,Tryz.func21,by decide,rfl⟩
abbrev nj:Nat:=4
abbrev t_api_Event:Nat:=56
abbrev t_api_Answer:Nat:=30
def iK.eqb (x y:iK):Bool:=((x.fEnv == y.fEnv) && ((x.fSlot == y.fSlot) && true))
def str_73df774b:ByteArray:=⟨#[48,49,50,51,52,53,54,55,56,57,97,98,99,100,101,102,103,104,105,106,107,108,109,110,111,112,113,114,115,116,117,118,119,120,121,122]⟩
def str_e9752c08:ByteArray:=⟨#[48,48,48,49,48,50,48,51,48,52,48,53,48,54,48,55,48,56,48,57,49,48,49,49,49,50,49,51,49,52,49,53,49,54,49,55,49,56,49,57,50,48,50,49,50,50,50,51,50,52,50,53,50,54,50,55,50,56,50,57,51,48,51,49,51,50,51,51,51,52,51,53,51,54,51,55,51,56,51,57,52,48,52,49,52,50,52,51,52,52,52,53,52,54,52,55,52,56,52,57,53,48,53,49,53,50,53,51,53,52,53,53,53,54,53,55,53,56,53,57,54,48,54,49,54,50,54,51,54,52,54,53,54,54,54,55,54,56,54,57,55,48,55,49,55,50,55,51,55,52,55,53,55,54,55,55,55,56,55,57,56,48,56,49,56,50,56,51,56,52,56,53,56,54,56,55,56,56,56,57,57,48,57,49,57,50,57,51,57,52,57,53,57,54,57,55,57,56,57,57]⟩
abbrev jw:Nat:=259
abbrev rv:Nat:=260
theorem inf_5:∃ i,Tryz.prog.info? 5 = some i∧i.size = 1:=bL (by kernel_rfl)
abbrev pE:Nat:=261
def R_Suint8_string (r:Sl × ByteArray):Value:=.tuple #[(sv r.1),(.string r.2)]
def R_Suint8 (r:Sl):Value:=(sv r)
abbrev ra:Nat:=262
theorem en_259:aM Tryz.prog 259:=⟨_,Tryz.func259,by decide,rfl⟩
theorem zero_326:∃ i,Tryz.prog.info? 326 = some i∧i.zero = some (.agg [.int .u8 0,.int .u8 0,.int .u8 0,.int .u8 0,.int .u8 0,.int .u8 0,.int .u8 0,.int .u8 0,.int .u8 0,.int .u8 0,.int .u8 0,.int .u8 0,.int .u8 0,.int .u8 0,.int .u8 0,.int .u8 0,.int .u8 0,.int .u8 0,.int .u8 0,.int .u8 0,.int .u8 0,.int .u8 0,.int .u8 0,.int .u8 0].toArray):=lb (by kernel_rfl)
abbrev wz:Nat:=326
theorem arr_326:Arr Tryz.prog 326 24 5 1:=⟨Tryz.underlying326,bL (by kernel_rfl)⟩
theorem en_261:aM Tryz.prog 261:=⟨_,Tryz.func261,by decide,rfl⟩
theorem en_260:aM Tryz.prog 260:=⟨_,Tryz.func260,by decide,rfl⟩
theorem en_262:aM Tryz.prog 262:=⟨_,Tryz.func262,by decide,rfl⟩
abbrev gK:Nat:=258
theorem en_258:aM Tryz.prog 258:=⟨_,Tryz.func258,by decide,rfl⟩
abbrev jJ:Nat:=257
theorem en_257:aM Tryz.prog 257:=⟨_,Tryz.func257,by decide,rfl⟩
abbrev tt:Nat:=256
theorem en_256:aM Tryz.prog 256:=⟨_,Tryz.func256,by decide,rfl⟩
abbrev jg:Nat:=253
abbrev tn:Nat:=254
abbrev nE:Nat:=255
abbrev t_api_Pick:Nat:=51
abbrev t_api_Line:Nat:=54
abbrev t_uint64:Nat:=22
abbrev sQ:Nat:=114
abbrev fA:Nat:=118
abbrev eC:Nat:=161
abbrev t_api_Pte:Nat:=79
abbrev t_bool:Nat:=4
abbrev rD:Nat:=272
abbrev t_tlb_line:Nat:=169
end Go.Proofs.YtemoifebbhoinaaGreatDoor
namespace Go.Proofs.YtemoifebbhoinaaGreatDoor
open Go Mb
set_option linter.unusedVariables false
theorem el_Sint:El Tryz.prog dK lf 1 8 [.int .i64 0]:=wl Tryz.underlying39 (by kernel_rfl) rfl
theorem qB:El Tryz.prog eT t_api_Event 16 128 [.int .i64 0,.int .i64 0,.int .u64 0,.int .u64 0,.int .u64 0,.int .u64 0,.int .u64 0,.int .i64 0,.int .i64 0,.int .i64 0,.int .i64 0,.int .u64 0,.int .i64 0,.int .i64 0,.int .i64 0,.int .i64 0]:=wl Tryz.underlying42 (by kernel_rfl) rfl
theorem xF:El Tryz.prog lv t_api_Pick 10 80 [.int .i64 0,.int .i64 0,.int .i64 0,.int .u64 0,.int .u64 0,.int .u64 0,.int .u64 0,.int .u64 0,.int .i64 0,.int .i64 0]:=wl Tryz.underlying45 (by kernel_rfl) rfl
theorem el_Sapi_Line:El Tryz.prog qM t_api_Line 4 32 [.int .i64 0,.int .i64 0,.int .i64 0,.int .i64 0]:=wl Tryz.underlying76 (by kernel_rfl) rfl
theorem ge:El Tryz.prog be t_uint64 1 8 [.int .u64 0]:=wl Tryz.underlying93 (by kernel_rfl) rfl
theorem el_Sapi_Answer:El Tryz.prog nc t_api_Answer 2 16 [.int .i64 0,.int .u64 0]:=wl Tryz.underlying101 (by kernel_rfl) rfl
theorem el_SPtlb_Tlb:El Tryz.prog bU sQ 1 8 [pv none]:=wl Tryz.underlying104 (by kernel_rfl) rfl
theorem el_SPkern_call:El Tryz.prog ne fA 1 8 [pv none]:=wl Tryz.underlying107 (by kernel_rfl) rfl
theorem wm:El Tryz.prog eU eC 1 8 [pv none]:=wl Tryz.underlying153 (by kernel_rfl) rfl
theorem uK:El Tryz.prog qe be 1 24 [sv (⟨none,0,0,none⟩:Sl)]:=wl Tryz.underlying163 (by kernel_rfl) rfl
theorem tK:El Tryz.prog hZ rZ 2 16 [.int .i64 0,.int .i64 0]:=wl Tryz.underlying201 (by kernel_rfl) rfl
theorem el_S_8_api_Cap:El Tryz.prog t_S_8_api_Cap lw 32 256 [.int .i64 0,.int .i64 0,.int .i64 0,.int .i64 0,.int .i64 0,.int .i64 0,.int .i64 0,.int .i64 0,.int .i64 0,.int .i64 0,.int .i64 0,.int .i64 0,.int .i64 0,.int .i64 0,.int .i64 0,.int .i64 0,.int .i64 0,.int .i64 0,.int .i64 0,.int .i64 0,.int .i64 0,.int .i64 0,.int .i64 0,.int .i64 0,.int .i64 0,.int .i64 0,.int .i64 0,.int .i64 0,.int .i64 0,.int .i64 0,.int .i64 0,.int .i64 0]:=wl Tryz.underlying206 (by kernel_rfl) rfl
theorem el_Sapi_Pte:El Tryz.prog qd t_api_Pte 3 24 [.int .i64 0,.int .i64 0,.int .i64 0]:=wl Tryz.underlying240 (by kernel_rfl) rfl
theorem enter_hist_Order_c1:aM Tryz.prog ny:=⟨_,Tryz.func93,by decide,rfl⟩
theorem enter_hist_Order_c2:aM Tryz.prog rx:=⟨_,Tryz.func95,by decide,rfl⟩
theorem vi:aM Tryz.prog lO:=⟨_,Tryz.func189,by decide,rfl⟩
theorem wk:aM Tryz.prog gR:=⟨_,Tryz.func203,by decide,rfl⟩
theorem enter_hist_Over_c1:aM Tryz.prog tw:=⟨_,Tryz.func221,by decide,rfl⟩
theorem mp_map_int_bool:Mp Tryz.prog jE lf t_bool (.bool false):=⟨Tryz.underlying61,⟨_,Tryz.underlying3⟩,lb (by kernel_rfl)⟩
theorem mp_map_int_int:Mp Tryz.prog hY lf lf (.int .i64 0):=⟨Tryz.underlying95,⟨_,Tryz.underlying3⟩,lb (by kernel_rfl)⟩
theorem agn_8_api_Pte:Ag Tryz.prog tZ 24:=⟨⟨_,Tryz.underlying80,rfl⟩,bL (by kernel_rfl)⟩
theorem arn_8_api_Pte:Tryz.prog.underlying tZ = some (.array 8 t_api_Pte):=Tryz.underlying80
theorem age_8_api_Pte:Ag Tryz.prog t_api_Pte 3:=⟨⟨_,Tryz.underlying79,rfl⟩,bL (by kernel_rfl)⟩
theorem arn_2_tlb_line:Tryz.prog.underlying t_2_tlb_line = some (.array 2 t_tlb_line):=Tryz.underlying170
theorem age_2_tlb_line:Ag Tryz.prog t_tlb_line 5:=⟨⟨_,Tryz.underlying169,rfl⟩,bL (by kernel_rfl)⟩
theorem agn_8_api_Cap:Ag Tryz.prog lw 32:=⟨⟨_,Tryz.underlying205,rfl⟩,bL (by kernel_rfl)⟩
theorem arn_8_api_Cap:Tryz.prog.underlying lw = some (.array 8 fU):=Tryz.underlying205
theorem age_8_api_Cap:Ag Tryz.prog fU 4:=⟨⟨_,Tryz.underlying36,rfl⟩,bL (by kernel_rfl)⟩
end Go.Proofs.YtemoifebbhoinaaGreatDoor
namespace Go.Proofs.YtemoifebbhoinaaGreatDoor
open Go Mb
set_option linter.unusedVariables false
def sh_word_Kind (a0:ai) (K:(Int × Bool)→Hp→Prop):Hp→Prop:=br (((decide (a0.e0 ≥ 1)) && (decide (a0.e0 ≤ 10))) || ((decide (a0.e0 ≥ 20)) && (decide (a0.e0 ≤ 23)))) ( K ((IntKind.i64.wrap a0.e0),true)) ( K (0,false))
theorem sim_word_Kind (a0:ai) {K:(Int × Bool)→Hp→Prop} {h:Hp} (H:sh_word_Kind a0 K h):Ct Tryz.prog n_word_Kind #[(.agg (ai.C a0).toArray)] h fun v h'=>∃ r,v = bQ r∧K r h':=aw [(.agg (ai.C a0).toArray)] Tryz.func63 c c c fun _=>M<|aa<|cA (l:=ai.C a0) c c c fun b1=>p (ar c)<|O c<|ak<|M<|p (bw dk c c (by decide))<|bf (ba (k:=0) cy c c c) c<|O c<|M<|J c<|p (ij c c)<|J c<|V c c (ay _) (fun g1=>wv<|ag c)<|V c c (ay _) (fun g2=>wv<|v_le (az c g2) c)<|p (bO c c)<|J c<|V c c (aG _) (fun g3=>wv<|ag c)<|V c c (aG _) (fun g4=>wv<|ij (az c g4) c)<|V c c (aG _) (fun g5=>wv<|ag<|az c g5)<|V c c (dO _ _) (fun g6=>wv<|ag c)<|V c c (dO _ _) (fun g7=>wv<|v_le (az c g7) c)<|V c c (aG _) (fun g8=>wv<|bO (az c g8)<|aK c<|nP g8)<|p (cZ c c)<|ad<|av c H (fun k9 H10=>M<|J c<|p (eB ⟨_,Tryz.underlying22⟩ Tryz.underlying3 c)<|p (ar c)<|O c<|ah<|bA (bV c (cf c)<|cf c) ⟨((IntKind.i64.wrap a0.e0),true),c,H10⟩) fun k9 H10=>an<|M<|p (ar c)<|O c<|ah<|bA (bV c (cf c)<|cf c) ⟨(0,false),c,H10⟩
def aE (a0:ai):Int × Bool:=(bif (((decide (a0.e0 ≥ 1)) && (decide (a0.e0 ≤ 10))) || ((decide (a0.e0 ≥ 20)) && (decide (a0.e0 ≤ 23)))) then (((IntKind.i64.wrap a0.e0),true)) else ((0,false)))
theorem pr_word_Kind (a0:ai) {K:(Int × Bool)→Hp→Prop} {h:Hp} (k:K (aE a0) h):sh_word_Kind a0 K h:=(kz (K:=K) (fun k=>k) (fun k=>k)) k
theorem kx (a0:ai) (h:Hp):Ct Tryz.prog n_word_Kind #[(.agg (ai.C a0).toArray)] h fun v h'=>∃ r,v = bQ r∧(r = aE a0∧h' = h):=sim_word_Kind a0 (pr_word_Kind a0 ⟨rfl,rfl⟩)
def sh_word_User (a0:Int) (K:Bool→Hp→Prop):Hp→Prop:=K ((decide (a0 ≥ 20)) && (decide (a0 ≤ 23)))
theorem sim_word_User (a0:Int) {K:Bool→Hp→Prop} {h:Hp} (H:sh_word_User a0 K h):Ct Tryz.prog n_word_User #[(.int .i64 a0)] h fun v h'=>∃ r,v = aA r∧K r h':=aw [(.int .i64 a0)] Tryz.func64 c c c fun _=>M<|O c<|M<|J c<|p (ij c c)<|J c<|V c c (ay _) (fun g1=>wv<|ag c)<|V c c (ay _) (fun g2=>wv<|v_le (az c g2) c)<|p (bO c c)<|O c<|ah<|D ⟨((decide (a0 ≥ 20)) && (decide (a0 ≤ 23))),c,H⟩
def cO (a0:Int):Bool:=(((decide (a0 ≥ 20)) && (decide (a0 ≤ 23))))
theorem pr_word_User (a0:Int) {K:Bool→Hp→Prop} {h:Hp} (k:K (cO a0) h):sh_word_User a0 K h:=(fun k=>k) k
theorem sB (a0:Int) (h:Hp):Ct Tryz.prog n_word_User #[(.int .i64 a0)] h fun v h'=>∃ r,v = aA r∧(r = cO a0∧h' = h):=sim_word_User a0 (pr_word_User a0 ⟨rfl,rfl⟩)
def sh_word_Rights (a0:Int) (K:(Int × Bool)→Hp→Prop):Hp→Prop:=br ((decide (a0 < 1)) || (decide (a0 > 3))) ( K (0,false)) ( K ((IntKind.i64.wrap a0),true))
theorem sim_word_Rights (a0:Int) {K:(Int × Bool)→Hp→Prop} {h:Hp} (H:sh_word_Rights a0 K h):Ct Tryz.prog n_word_Rights #[(.int .u64 a0)] h fun v h'=>∃ r,v = bQ r∧K r h':=aw [(.int .u64 a0)] Tryz.func193 c c c fun _=>M<|p (ar c)<|O c<|ak<|M<|J c<|p (cq c c)<|J c<|V c c (aG _) (fun g1=>wv<|ag c)<|V c c (aG _) (fun g2=>wv<|kP (az c g2) c)<|p (cZ c c)<|ad<|av c H (fun k3 H4=>M<|p (ar c)<|O c<|ah<|bA (bV c (cf c)<|cf c) ⟨(0,false),c,H4⟩) fun k3 H4=>an<|M<|J c<|p (eB ⟨_,Tryz.underlying22⟩ Tryz.underlying3 c)<|p (ar c)<|O c<|ah<|bA (bV c (cf c)<|cf c) ⟨((IntKind.i64.wrap a0),true),c,H4⟩
def iu (a0:Int):Int × Bool:=(bif ((decide (a0 < 1)) || (decide (a0 > 3))) then ((0,false)) else (((IntKind.i64.wrap a0),true)))
theorem pr_word_Rights (a0:Int) {K:(Int × Bool)→Hp→Prop} {h:Hp} (k:K (iu a0) h):sh_word_Rights a0 K h:=(kz (K:=K) (fun k=>k) (fun k=>k)) k
theorem ct_word_Rights (a0:Int) (h:Hp):Ct Tryz.prog n_word_Rights #[(.int .u64 a0)] h fun v h'=>∃ r,v = bQ r∧(r = iu a0∧h' = h):=sim_word_Rights a0 (pr_word_Rights a0 ⟨rfl,rfl⟩)
def sh_table_is (a0:Int) (K:Bool→Hp→Prop):Hp→Prop:=K ((decide (a0 ≥ 0)) && (decide (a0 < 8)))
theorem sim_table_is (a0:Int) {K:Bool→Hp→Prop} {h:Hp} (H:sh_table_is a0 K h):Ct Tryz.prog n_table_is #[(.int .i64 a0)] h fun v h'=>∃ r,v = aA r∧K r h':=aw [(.int .i64 a0)] Tryz.func156 c c c fun _=>M<|O c<|M<|J c<|p (ij c c)<|J c<|V c c (ay _) (fun g1=>wv<|ag c)<|V c c (ay _) (fun g2=>wv<|cq (az c g2) c)<|p (bO c c)<|O c<|ah<|D ⟨((decide (a0 ≥ 0)) && (decide (a0 < 8))),c,H⟩
def bB (a0:Int):Bool:=(((decide (a0 ≥ 0)) && (decide (a0 < 8))))
theorem pr_table_is (a0:Int) {K:Bool→Hp→Prop} {h:Hp} (k:K (bB a0) h):sh_table_is a0 K h:=(fun k=>k) k
theorem uL (a0:Int) (h:Hp):Ct Tryz.prog n_table_is #[(.int .i64 a0)] h fun v h'=>∃ r,v = aA r∧(r = bB a0∧h' = h):=sim_table_is a0 (pr_table_is a0 ⟨rfl,rfl⟩)
def sh_pte_May (a0:Int) (K:Bool→Hp→Prop):Hp→Prop:=K ((decide (a0 ≥ 1)) && (decide (a0 ≤ 3)))
theorem sim_pte_May (a0:Int) {K:Bool→Hp→Prop} {h:Hp} (H:sh_pte_May a0 K h):Ct Tryz.prog n_pte_May #[(.int .i64 a0)] h fun v h'=>∃ r,v = aA r∧K r h':=aw [(.int .i64 a0)] Tryz.func166 c c c fun _=>M<|O c<|M<|J c<|p (ij c c)<|J c<|V c c (ay _) (fun g1=>wv<|ag c)<|V c c (ay _) (fun g2=>wv<|v_le (az c g2) c)<|p (bO c c)<|O c<|ah<|D ⟨((decide (a0 ≥ 1)) && (decide (a0 ≤ 3))),c,H⟩
def ch (a0:Int):Bool:=(((decide (a0 ≥ 1)) && (decide (a0 ≤ 3))))
theorem pr_pte_May (a0:Int) {K:Bool→Hp→Prop} {h:Hp} (k:K (ch a0) h):sh_pte_May a0 K h:=(fun k=>k) k
theorem qu (a0:Int) (h:Hp):Ct Tryz.prog n_pte_May #[(.int .i64 a0)] h fun v h'=>∃ r,v = aA r∧(r = ch a0∧h' = h):=sim_pte_May a0 (pr_pte_May a0 ⟨rfl,rfl⟩)
def sh_pte_Within (a0:Int) (a1:Int) (K:Bool→Hp→Prop):Hp→Prop:=K (((ch a0) && (ch a1)) && ((iandnot .i64 a0 a1) == 0))
theorem sim_pte_Within (a0:Int) (a1:Int) {K:Bool→Hp→Prop} {h:Hp} (H:sh_pte_Within a0 a1 K h):Ct Tryz.prog n_pte_Within #[(.int .i64 a0),(.int .i64 a1)] h fun v h'=>∃ r,v = aA r∧K r h':=aw [(.int .i64 a0),(.int .i64 a1)] Tryz.func116 c c c fun _=>M<|O c<|M<|J c<|aa<|cK (vs:=[(.int .i64 a0)]) (bv<|qu a0 _) en_166 c c<|J c<|V c c (ay _) (fun g1=>wv<|ag c)<|dc (vs:=[(.int .i64 a1)]) c c c (ay _) (fun g2=>bv<|qu a1 _) en_166 (fun g2=>aT (az c g2) bW) c<|p (bO c c)<|J c<|V c c (ay _) (fun g3=>wv<|ag c)<|V c c (ay _) (fun g4=>wv<|ag c)<|V c c (ay _) (fun g5=>wv<|v_iandnot (az c g5)<|az c g5)<|V c c (ay _) (fun g6=>wv<|bH (az c g6) c)<|p (bO c c)<|O c<|ah<|D ⟨(((ch a0) && (ch a1)) && ((iandnot .i64 a0 a1) == 0)),c,H⟩
def aV (a0:Int) (a1:Int):Bool:=((((ch a0) && (ch a1)) && ((iandnot .i64 a0 a1) == 0)))
theorem pr_pte_Within (a0:Int) (a1:Int) {K:Bool→Hp→Prop} {h:Hp} (k:K (aV a0 a1) h):sh_pte_Within a0 a1 K h:=(fun k=>k) k
theorem df (a0:Int) (a1:Int) (h:Hp):Ct Tryz.prog n_pte_Within #[(.int .i64 a0),(.int .i64 a1)] h fun v h'=>∃ r,v = aA r∧(r = aV a0 a1∧h' = h):=sim_pte_Within a0 a1 (pr_pte_Within a0 a1 ⟨rfl,rfl⟩)
def sh_pte_Put (a0:al) (K:(Int × Bool)→Hp→Prop):Hp→Prop:=br (al.eqb a0 (⟨0,0,0⟩:al)) ( K (0,true)) ( br (((((decide (a0.fFrame < 0)) || (decide (a0.fFrame ≥ 16))) || (decide (a0.fSlot < 0))) || (decide (a0.fSlot ≥ 8))) || (!(ch a0.fRights))) ( K (0,false)) ( K ((IntKind.u64.wrap (IntKind.i64.wrap ((IntKind.i64.wrap ((IntKind.i64.wrap (32768 + (IntKind.i64.wrap (256 * a0.fFrame)))) + (IntKind.i64.wrap (16 * a0.fSlot)))) + a0.fRights))),true)))
theorem sim_pte_Put (a0:al) {K:(Int × Bool)→Hp→Prop} {h:Hp} (H:sh_pte_Put a0 K h):Ct Tryz.prog n_pte_Put #[(.agg (al.C a0).toArray)] h fun v h'=>∃ r,v = bM r∧K r h':=aw [(.agg (al.C a0).toArray)] Tryz.func155 c c c fun _=>M<|aa<|cA (l:=al.C a0) c c c fun b1=>p (ar c)<|O c<|ak<|M<|bf (bE (k:=0) fM c c c c) c<|p (bd (vs:=[]) c np)<|p (v_eqA eqg_79 (eqr_79 9998 _ _) c c)<|ad<|av c H (fun k1 H2=>M<|p (ar c)<|O c<|ah<|bA (bV c (cf c)<|cf c) ⟨(0,true),c,H2⟩) fun k1 H2=>an<|ak<|M<|p (ae rc c)<|bf (ba (k:=0) aS c c c) c<|p (cq c c)<|J c<|V c c (aG _) (fun g3=>wv<|ae rc c)<|V c c (aG _) (fun g4=>cv<|ba (k:=0) aS (az c g4) c c)<|V c c (aG _) (fun g5=>wv<|ij (az c g5) c)<|p (cZ c c)<|J c<|V c c (aG _) (fun g6=>wv<|ae tC c)<|V c c (aG _) (fun g7=>cv<|ba (k:=0) aS (az c g7) c c)<|V c c (aG _) (fun g8=>wv<|cq (az c g8) c)<|p (cZ c c)<|J c<|V c c (aG _) (fun g9=>wv<|ae tC c)<|V c c (aG _) (fun g10=>cv<|ba (k:=0) aS (az c g10) c c)<|V c c (aG _) (fun g11=>wv<|ij (az c g11) c)<|p (cZ c c)<|J c<|V c c (aG _) (fun g12=>wv<|ae eR c)<|V c c (aG _) (fun g13=>cv<|ba (k:=0) aS (az c g13) c c)<|dc (vs:=[(.int .i64 a0.fRights)]) c c c (aG _) (fun g14=>bv<|qu a0.fRights _) en_166 (fun g14=>aT (az c g14) bW) c<|V c c (aG _) (fun g15=>wv<|ct<|az c g15)<|p (cZ c c)<|ad<|av c H2 (fun k16 H17=>M<|p (ar c)<|O c<|ah<|bA (bV c (cf c)<|cf c) ⟨(0,false),c,H17⟩) fun k16 H17=>an<|M<|p (ae rc c)<|bf (ba (k:=0) aS c c c) c<|p (v_mul c c)<|p (bn c c)<|p (ae tC c)<|bf (ba (k:=0) aS c c c) c<|p (v_mul c c)<|p (bn c c)<|p (ae eR c)<|bf (ba (k:=0) aS c c c) c<|p (bn c c)<|p (eB ⟨_,Tryz.underlying3⟩ Tryz.underlying22 c)<|p (ar c)<|O c<|ah<|bA (bV c (cf c)<|cf c) ⟨((IntKind.u64.wrap (IntKind.i64.wrap ((IntKind.i64.wrap ((IntKind.i64.wrap (32768 + (IntKind.i64.wrap (256 * a0.fFrame)))) + (IntKind.i64.wrap (16 * a0.fSlot)))) + a0.fRights))),true),c,H17⟩
def fW (a0:al):Int × Bool:=(bif (al.eqb a0 (⟨0,0,0⟩:al)) then ((0,true)) else (bif (((((decide (a0.fFrame < 0)) || (decide (a0.fFrame ≥ 16))) || (decide (a0.fSlot < 0))) || (decide (a0.fSlot ≥ 8))) || (!(ch a0.fRights))) then ((0,false)) else (((IntKind.u64.wrap (IntKind.i64.wrap ((IntKind.i64.wrap ((IntKind.i64.wrap (32768 + (IntKind.i64.wrap (256 * a0.fFrame)))) + (IntKind.i64.wrap (16 * a0.fSlot)))) + a0.fRights))),true))))
theorem pr_pte_Put (a0:al) {K:(Int × Bool)→Hp→Prop} {h:Hp} (k:K (fW a0) h):sh_pte_Put a0 K h:=(kz (K:=K) (fun k=>k) (kz (K:=K) (fun k=>k) (fun k=>k))) k
theorem ct_pte_Put (a0:al) (h:Hp):Ct Tryz.prog n_pte_Put #[(.agg (al.C a0).toArray)] h fun v h'=>∃ r,v = bM r∧(r = fW a0∧h' = h):=sim_pte_Put a0 (pr_pte_Put a0 ⟨rfl,rfl⟩)
def sh_tlb_empty (K:am→Hp→Prop):Hp→Prop:=K (⟨(-1),0,0,0⟩:am)
theorem sim_tlb_empty {K:am→Hp→Prop} {h:Hp} (H:sh_tlb_empty K h):Ct Tryz.prog n_tlb_empty #[] h fun v h'=>∃ r,v = R_api_Line r∧K r h':=aw [] Tryz.func152 c c c fun _=>M<|aa<|aP (l:=am.C (⟨0,0,0,0⟩:am)) lc c c fun b0=>ad<|M<|p (bd c<|build_54_0 (-1))<|aa<|aR (k:=0) (vs:=am.C (⟨(-1),0,0,0⟩:am)) fD c c c c c c c<|ad<|ah<|bA (mI c<|bF (k:=0) c ig c c) ⟨(⟨(-1),0,0,0⟩:am),c,H⟩
def dG:am:=((⟨(-1),0,0,0⟩:am))
theorem pr_tlb_empty {K:am→Hp→Prop} {h:Hp} (k:K (dG) h):sh_tlb_empty K h:=(fun k=>k) k
theorem xG (h:Hp):Ct Tryz.prog n_tlb_empty #[] h fun v h'=>∃ r,v = R_api_Line r∧(r = dG∧h' = h):=sim_tlb_empty (pr_tlb_empty ⟨rfl,rfl⟩)
def sh_pte_Lets (a0:Int) (a1:Int) (K:Bool→Hp→Prop):Hp→Prop:=br (a1 == 20) ( K (aV 1 a0)) ( br (a1 == 21) ( K (aV 2 a0)) ( br (a1 == 22) ( K (aV 3 a0)) ( br (a1 == 23) ( K (aV 3 a0)) ( K (aV 0 a0)))))
theorem sim_pte_Lets (a0:Int) (a1:Int) {K:Bool→Hp→Prop} {h:Hp} (H:sh_pte_Lets a0 a1 K h):Ct Tryz.prog n_pte_Lets #[(.int .i64 a0),(.int .i64 a1)] h fun v h'=>∃ r,v = aA r∧K r h':=aw [(.int .i64 a0),(.int .i64 a1)] Tryz.func158 c c c fun _=>M<|O c<|M<|O c<|ak<|M<|J c<|ad<|ax<|M<|p (bH c c)<|O c<|av c H (fun k1 H2=>ap<|O c<|M<|J c<|J c<|aa<|cK (vs:=[(.int .i64 1),(.int .i64 a0)]) (bv<|df 1 a0 _) mT c c<|O c<|ah<|D ⟨aV 1 a0,c,H2⟩) fun k1 H2=>M<|p (bH c c)<|O c<|av c H2 (fun k3 H4=>ap<|O c<|M<|J c<|J c<|aa<|cK (vs:=[(.int .i64 2),(.int .i64 a0)]) (bv<|df 2 a0 _) mT c c<|O c<|ah<|D ⟨aV 2 a0,c,H4⟩) fun k3 H4=>ak<|M<|p (bH c c)<|O c<|av c H4 (fun k5 H6=>an<|fG c k5<|ap<|O c<|M<|J c<|J c<|aa<|cK (vs:=[(.int .i64 3),(.int .i64 a0)]) (bv<|df 3 a0 _) mT c c<|O c<|ah<|D ⟨aV 3 a0,c,H6⟩) fun k5 H6=>ap<|p (bH c c)<|O c<|av c H6 (fun k7 H8=>ap<|O c<|M<|J c<|J c<|aa<|cK (vs:=[(.int .i64 3),(.int .i64 a0)]) (bv<|df 3 a0 _) mT c c<|O c<|ah<|D ⟨aV 3 a0,c,H8⟩) fun k7 H8=>an<|M<|J c<|J c<|aa<|cK (vs:=[(.int .i64 0),(.int .i64 a0)]) (bv<|df 0 a0 _) mT c c<|O c<|ah<|D ⟨aV 0 a0,c,H8⟩
def dw (a0:Int) (a1:Int):Bool:=(bif (a1 == 20) then ((aV 1 a0)) else (bif (a1 == 21) then ((aV 2 a0)) else (bif (a1 == 22) then ((aV 3 a0)) else (bif (a1 == 23) then ((aV 3 a0)) else ((aV 0 a0))))))
theorem pr_pte_Lets (a0:Int) (a1:Int) {K:Bool→Hp→Prop} {h:Hp} (k:K (dw a0 a1) h):sh_pte_Lets a0 a1 K h:=(kz (K:=K) (fun k=>k) (kz (K:=K) (fun k=>k) (kz (K:=K) (fun k=>k) (kz (K:=K) (fun k=>k) (fun k=>k))))) k
theorem ke (a0:Int) (a1:Int) (h:Hp):Ct Tryz.prog n_pte_Lets #[(.int .i64 a0),(.int .i64 a1)] h fun v h'=>∃ r,v = aA r∧(r = dw a0 a1∧h' = h):=sim_pte_Lets a0 a1 (pr_pte_Lets a0 a1 ⟨rfl,rfl⟩)
def rT (a0:Int) (K:Bool→Hp→Prop):Hp→Prop:=K (a0 != a0)
theorem sim_cmp_isNaN_uint64 (a0:Int) {K:Bool→Hp→Prop} {h:Hp} (H:rT a0 K h):Ct Tryz.prog tx #[(.int .u64 a0)] h fun v h'=>∃ r,v = aA r∧K r h':=aw [(.int .u64 a0)] Tryz.func218 c c c fun _=>M<|O c<|M<|J c<|J c<|p (qH c c)<|O c<|ah<|D ⟨(a0 != a0),c,H⟩
def dy (a0:Int):Bool:=((a0 != a0))
theorem pr_cmp_isNaN_uint64 (a0:Int) {K:Bool→Hp→Prop} {h:Hp} (k:K (dy a0) h):rT a0 K h:=(fun k=>k) k
theorem rX (a0:Int) (h:Hp):Ct Tryz.prog tx #[(.int .u64 a0)] h fun v h'=>∃ r,v = aA r∧(r = dy a0∧h' = h):=sim_cmp_isNaN_uint64 a0 (pr_cmp_isNaN_uint64 a0 ⟨rfl,rfl⟩)
def te (a0:Int) (a1:Int) (K:Bool→Hp→Prop):Hp→Prop:=K (((dy a0) && (!(dy a1))) || (decide (a0 < a1)))
theorem sim_cmp_Less_uint64 (a0:Int) (a1:Int) {K:Bool→Hp→Prop} {h:Hp} (H:te a0 a1 K h):Ct Tryz.prog uH #[(.int .u64 a0),(.int .u64 a1)] h fun v h'=>∃ r,v = aA r∧K r h':=aw [(.int .u64 a0),(.int .u64 a1)] Tryz.func195 c c c fun _=>M<|O c<|M<|J c<|aa<|cK (vs:=[(.int .u64 a0)]) (bv<|rX a0 _) en_218 c c<|J c<|V c c (ay _) (fun g1=>wv<|ag c)<|dc (vs:=[(.int .u64 a1)]) c c c (ay _) (fun g2=>bv<|rX a1 _) en_218 (fun g2=>aT (az c g2) bW) c<|V c c (ay _) (fun g3=>wv<|ct<|az c g3)<|p (bO c c)<|J c<|V c c (aG _) (fun g4=>wv<|ag c)<|V c c (aG _) (fun g5=>wv<|ag c)<|V c c (aG _) (fun g6=>wv<|cq (az c g6)<|az c g6)<|p (cZ c c)<|O c<|ah<|D ⟨(((dy a0) && (!(dy a1))) || (decide (a0 < a1))),c,H⟩
def iv (a0:Int) (a1:Int):Bool:=((((dy a0) && (!(dy a1))) || (decide (a0 < a1))))
theorem pr_cmp_Less_uint64 (a0:Int) (a1:Int) {K:Bool→Hp→Prop} {h:Hp} (k:K (iv a0 a1) h):te a0 a1 K h:=(fun k=>k) k
theorem ct_cmp_Less_uint64 (a0:Int) (a1:Int) (h:Hp):Ct Tryz.prog uH #[(.int .u64 a0),(.int .u64 a1)] h fun v h'=>∃ r,v = aA r∧(r = iv a0 a1∧h' = h):=sim_cmp_Less_uint64 a0 a1 (pr_cmp_Less_uint64 a0 a1 ⟨rfl,rfl⟩)
def oL (a0:Int) (K:Bool→Hp→Prop):Hp→Prop:=K (a0 != a0)
theorem vt (a0:Int) {K:Bool→Hp→Prop} {h:Hp} (H:oL a0 K h):Ct Tryz.prog pU #[(.int .u64 a0)] h fun v h'=>∃ r,v = aA r∧K r h':=aw [(.int .u64 a0)] Tryz.func196 c c c fun _=>M<|O c<|M<|J c<|J c<|p (qH c c)<|O c<|ah<|D ⟨(a0 != a0),c,H⟩
def dH (a0:Int):Bool:=((a0 != a0))
theorem xc (a0:Int) {K:Bool→Hp→Prop} {h:Hp} (k:K (dH a0) h):oL a0 K h:=(fun k=>k) k
theorem pw (a0:Int) (h:Hp):Ct Tryz.prog pU #[(.int .u64 a0)] h fun v h'=>∃ r,v = aA r∧(r = dH a0∧h' = h):=vt a0 (xc a0 ⟨rfl,rfl⟩)
def sh_plain_fails (a0:Int) (K:(ac × Bool)→Hp→Prop):Hp→Prop:=K ((⟨a0,0⟩:ac),true)
theorem sim_plain_fails (a0:Int) {K:(ac × Bool)→Hp→Prop} {h:Hp} (H:sh_plain_fails a0 K h):Ct Tryz.prog n_plain_fails #[(.int .i64 a0)] h fun v h'=>∃ r,v = bk r∧K r h':=aw [(.int .i64 a0)] Tryz.func123 c c c fun _=>M<|aa<|aP (l:=ac.C (⟨0,0⟩:ac)) di c c fun b2=>O c<|M<|J c<|p (bd c<|jy a0)<|aa<|aR (k:=0) (vs:=ac.C (⟨a0,0⟩:ac)) bS c c c c c c c<|O c<|ah<|bA (bV c (bF (k:=0) c cH c c)<|cf c) ⟨((⟨a0,0⟩:ac),true),c,H⟩
def aQ (a0:Int):ac × Bool:=(((⟨a0,0⟩:ac),true))
theorem pr_plain_fails (a0:Int) {K:(ac × Bool)→Hp→Prop} {h:Hp} (k:K (aQ a0) h):sh_plain_fails a0 K h:=(fun k=>k) k
theorem dN (a0:Int) (h:Hp):Ct Tryz.prog n_plain_fails #[(.int .i64 a0)] h fun v h'=>∃ r,v = bk r∧(r = aQ a0∧h' = h):=sim_plain_fails a0 (pr_plain_fails a0 ⟨rfl,rfl⟩)
def sh_pred_Holds (a0:Int) (a1:Int) (a2:Int) (K:Bool→Hp→Prop):Hp→Prop:=br (a0 == 1) ( K (a1 == a2)) ( br (a0 == 2) ( K (a1 != a2)) ( br (a0 == 3) ( K (decide (a1 < a2))) ( br (a0 == 4) ( K (decide (a1 > a2))) ( K false))))
theorem sim_pred_Holds (a0:Int) (a1:Int) (a2:Int) {K:Bool→Hp→Prop} {h:Hp} (H:sh_pred_Holds a0 a1 a2 K h):Ct Tryz.prog n_pred_Holds #[(.int .i64 a0),(.int .u64 a1),(.int .u64 a2)] h fun v h'=>∃ r,v = aA r∧K r h':=aw [(.int .i64 a0),(.int .u64 a1),(.int .u64 a2)] Tryz.func148 c c c fun _=>M<|O c<|ak<|M<|J c<|ad<|ax<|M<|p (bH c c)<|O c<|av c H (fun k1 H2=>M<|J c<|J c<|p (bH c c)<|O c<|ah<|D ⟨(a1 == a2),c,H2⟩) fun k1 H2=>M<|p (bH c c)<|O c<|av c H2 (fun k3 H4=>M<|J c<|J c<|p (qH c c)<|O c<|ah<|D ⟨(a1 != a2),c,H4⟩) fun k3 H4=>M<|p (bH c c)<|O c<|av c H4 (fun k5 H6=>M<|J c<|J c<|p (cq c c)<|O c<|ah<|D ⟨decide (a1 < a2),c,H6⟩) fun k5 H6=>M<|p (bH c c)<|O c<|av c H6 (fun k7 H8=>M<|J c<|J c<|p (kP c c)<|O c<|ah<|D ⟨decide (a1 > a2),c,H8⟩) fun k7 H8=>an<|M<|O c<|ah<|D ⟨false,c,H8⟩
def ni (a0:Int) (a1:Int) (a2:Int):Bool:=(bif (a0 == 1) then ((a1 == a2)) else (bif (a0 == 2) then ((a1 != a2)) else (bif (a0 == 3) then ((decide (a1 < a2))) else (bif (a0 == 4) then ((decide (a1 > a2))) else (false)))))
theorem pr_pred_Holds (a0:Int) (a1:Int) (a2:Int) {K:Bool→Hp→Prop} {h:Hp} (k:K (ni a0 a1 a2) h):sh_pred_Holds a0 a1 a2 K h:=(kz (K:=K) (fun k=>k) (kz (K:=K) (fun k=>k) (kz (K:=K) (fun k=>k) (kz (K:=K) (fun k=>k) (fun k=>k))))) k
theorem vm (a0:Int) (a1:Int) (a2:Int) (h:Hp):Ct Tryz.prog n_pred_Holds #[(.int .i64 a0),(.int .u64 a1),(.int .u64 a2)] h fun v h'=>∃ r,v = aA r∧(r = ni a0 a1 a2∧h' = h):=sim_pred_Holds a0 a1 a2 (pr_pred_Holds a0 a1 a2 ⟨rfl,rfl⟩)
def sh_hist_one (a0:aB) (a1:au) (a2:Int) (K:Bool→Hp→Prop):Hp→Prop:=br (((((decide (a0.fCore < 0)) || (decide (a0.fCore ≥ a1.fCores))) || (decide (a0.fEnv < 0))) || (decide (a0.fEnv ≥ a1.fEnvs))) || (decide (a0.fBegin ≤ a2))) ( K false) ( br (a0.fEffect == 0) ( K (a0.fEnd == 0)) ( K ((decide (a0.fEffect ≥ a0.fBegin)) && ((a0.fEnd == 0) || (decide (a0.fEnd ≥ a0.fEffect))))))
theorem sim_hist_one (a0:aB) (a1:au) (a2:Int) {K:Bool→Hp→Prop} {h:Hp} (H:sh_hist_one a0 a1 a2 K h):Ct Tryz.prog n_hist_one #[(.agg (aB.C a0).toArray),(.agg (au.C a1).toArray),(.int .i64 a2)] h fun v h'=>∃ r,v = aA r∧K r h':=aw [(.agg (aB.C a0).toArray),(.agg (au.C a1).toArray),(.int .i64 a2)] Tryz.func61 c c c fun _=>M<|aa<|cA (l:=aB.C a0) c c c fun b3=>aa<|cA (l:=au.C a1) c c c fun b4=>O c<|ak<|ax<|M<|p (ae fT c)<|bf (ba (k:=1) aS c c c) c<|p (cq c c)<|J c<|V c c (aG _) (fun g1=>wv<|ae fT c)<|V c c (aG _) (fun g2=>cv<|ba (k:=1) aS (az c g2) c c)<|V c c (aG _) (fun g3=>wv<|ae lS c)<|V c c (aG _) (fun g4=>cv<|ba (k:=0) aS (az c g4) c c)<|V c c (aG _) (fun g5=>wv<|ij (az c g5)<|az c g5)<|p (cZ c c)<|J c<|V c c (aG _) (fun g6=>wv<|ae kF c)<|V c c (aG _) (fun g7=>cv<|ba (k:=1) aS (az c g7) c c)<|V c c (aG _) (fun g8=>wv<|cq (az c g8) c)<|p (cZ c c)<|J c<|V c c (aG _) (fun g9=>wv<|ae kF c)<|V c c (aG _) (fun g10=>cv<|ba (k:=1) aS (az c g10) c c)<|V c c (aG _) (fun g11=>wv<|ae kH c)<|V c c (aG _) (fun g12=>cv<|ba (k:=0) aS (az c g12) c c)<|V c c (aG _) (fun g13=>wv<|ij (az c g13)<|az c g13)<|p (cZ c c)<|J c<|V c c (aG _) (fun g14=>wv<|ae gu c)<|V c c (aG _) (fun g15=>cv<|ba (k:=1) aS (az c g15) c c)<|V c c (aG _) (fun g16=>wv<|ag c)<|V c c (aG _) (fun g17=>wv<|v_le (az c g17)<|az c g17)<|p (cZ c c)<|O c<|av c H (fun k18 H19=>M<|O c<|ah<|D ⟨false,c,H19⟩) fun k18 H19=>M<|p (ae db c)<|bf (ba (k:=1) aS c c c) c<|p (bH c c)<|O c<|av c H19 (fun k20 H21=>M<|p (ae dM c)<|bf (ba (k:=1) aS c c c) c<|p (bH c c)<|O c<|ah<|D ⟨(a0.fEnd == 0),c,H21⟩) fun k20 H21=>an<|M<|p (ae db c)<|bf (ba (k:=1) aS c c c) c<|p (ae gu c)<|bf (ba (k:=1) aS c c c) c<|p (ij c c)<|J c<|V c c (ay _) (fun g22=>wv<|ae dM c)<|V c c (ay _) (fun g23=>cv<|ba (k:=1) aS (az c g23) c c)<|V c c (ay _) (fun g24=>wv<|bH (az c g24) c)<|V c c (ay _) (fun g25=>wv<|ag<|az c g25)<|V c c (ee _ _) (fun g26=>wv<|ae dM c)<|V c c (ee _ _) (fun g27=>cv<|ba (k:=1) aS (az c g27) c c)<|V c c (ee _ _) (fun g28=>wv<|ae db c)<|V c c (ee _ _) (fun g29=>cv<|ba (k:=1) aS (az c g29) c c)<|V c c (ee _ _) (fun g30=>wv<|ij (az c g30)<|az c g30)<|V c c (ay _) (fun g31=>wv<|cZ (az c g31)<|aK c<|nP g31)<|p (bO c c)<|O c<|ah<|D ⟨((decide (a0.fEffect ≥ a0.fBegin)) && ((a0.fEnd == 0) || (decide (a0.fEnd ≥ a0.fEffect)))),c,H21⟩
def dC (a0:aB) (a1:au) (a2:Int):Bool:=(bif (((((decide (a0.fCore < 0)) || (decide (a0.fCore ≥ a1.fCores))) || (decide (a0.fEnv < 0))) || (decide (a0.fEnv ≥ a1.fEnvs))) || (decide (a0.fBegin ≤ a2))) then (false) else (bif (a0.fEffect == 0) then ((a0.fEnd == 0)) else (((decide (a0.fEffect ≥ a0.fBegin)) && ((a0.fEnd == 0) || (decide (a0.fEnd ≥ a0.fEffect)))))))
theorem pr_hist_one (a0:aB) (a1:au) (a2:Int) {K:Bool→Hp→Prop} {h:Hp} (k:K (dC a0 a1 a2) h):sh_hist_one a0 a1 a2 K h:=(kz (K:=K) (fun k=>k) (kz (K:=K) (fun k=>k) (fun k=>k))) k
theorem ct_hist_one (a0:aB) (a1:au) (a2:Int) (h:Hp):Ct Tryz.prog n_hist_one #[(.agg (aB.C a0).toArray),(.agg (au.C a1).toArray),(.int .i64 a2)] h fun v h'=>∃ r,v = aA r∧(r = dC a0 a1 a2∧h' = h):=sim_hist_one a0 a1 a2 (pr_hist_one a0 a1 a2 ⟨rfl,rfl⟩)
def vO (a0:aB) (K:Bool→Hp→Prop):Hp→Prop:=K (decide (a0.fEffect > 0))
theorem sim_hist_Order_c1 (a0:aB) {K:Bool→Hp→Prop} {h:Hp} (H:vO a0 K h):Ct Tryz.prog ny #[(.agg (aB.C a0).toArray)] h fun v h'=>∃ r,v = aA r∧K r h':=aw [(.agg (aB.C a0).toArray)] Tryz.func93 c c c fun _=>M<|aa<|cA (l:=aB.C a0) c c c fun b1=>O c<|M<|p (ae db c)<|bf (ba (k:=0) aS c c c) c<|p (kP c c)<|O c<|ah<|D ⟨decide (a0.fEffect > 0),c,H⟩
def vX (a0:aB):Bool:=((decide (a0.fEffect > 0)))
theorem pr_hist_Order_c1 (a0:aB) {K:Bool→Hp→Prop} {h:Hp} (k:K (vX a0) h):vO a0 K h:=(fun k=>k) k
theorem ct_hist_Order_c1 (a0:aB) (h:Hp):Ct Tryz.prog ny #[(.agg (aB.C a0).toArray)] h fun v h'=>∃ r,v = aA r∧(r = vX a0∧h' = h):=sim_hist_Order_c1 a0 (pr_hist_Order_c1 a0 ⟨rfl,rfl⟩)
def vR (a0:Int) (K:Bool→Hp→Prop):Hp→Prop:=K (a0 != a0)
theorem sim_cmp_isNaN_int (a0:Int) {K:Bool→Hp→Prop} {h:Hp} (H:vR a0 K h):Ct Tryz.prog n_cmp_isNaN_int #[(.int .i64 a0)] h fun v h'=>∃ r,v = aA r∧K r h':=aw [(.int .i64 a0)] Tryz.func138 c c c fun _=>M<|O c<|M<|J c<|J c<|p (qH c c)<|O c<|ah<|D ⟨(a0 != a0),c,H⟩
def eF (a0:Int):Bool:=((a0 != a0))
theorem pr_cmp_isNaN_int (a0:Int) {K:Bool→Hp→Prop} {h:Hp} (k:K (eF a0) h):vR a0 K h:=(fun k=>k) k
theorem wn (a0:Int) (h:Hp):Ct Tryz.prog n_cmp_isNaN_int #[(.int .i64 a0)] h fun v h'=>∃ r,v = aA r∧(r = eF a0∧h' = h):=sim_cmp_isNaN_int a0 (pr_cmp_isNaN_int a0 ⟨rfl,rfl⟩)
def tf (a0:Int) (a1:Int) (K:Int→Hp→Prop):Hp→Prop:=br (eF a0) ( br (eF a1) ( K 0) ( K (-1))) ( br (eF a1) ( K 1) ( br (decide (a0 < a1)) ( K (-1)) ( br (decide (a0 > a1)) ( K 1) ( K 0))))
theorem sim_cmp_Compare_int (a0:Int) (a1:Int) {K:Int→Hp→Prop} {h:Hp} (H:tf a0 a1 K h):Ct Tryz.prog uI #[(.int .i64 a0),(.int .i64 a1)] h fun v h'=>∃ r,v = eJ r∧K r h':=aw [(.int .i64 a0),(.int .i64 a1)] Tryz.func96 c c c fun _=>M<|O c<|M<|J c<|aa<|cK (vs:=[(.int .i64 a0)]) (bv<|wn a0 _) en_138 c c<|O c<|M<|J c<|aa<|cK (vs:=[(.int .i64 a1)]) (bv<|wn a1 _) en_138 c c<|O c<|ak<|M<|J c<|ad<|av c H (fun k1 H2=>ak<|M<|J c<|ad<|av c H2 (fun k3 H4=>M<|O c<|ah<|D ⟨0,c,H4⟩) fun k3 H4=>an<|M<|O c<|ah<|D ⟨(-1),c,H4⟩) fun k1 H2=>an<|ak<|M<|J c<|ad<|av c H2 (fun k5 H6=>M<|O c<|ah<|D ⟨1,c,H6⟩) fun k5 H6=>an<|ak<|M<|J c<|J c<|p (cq c c)<|ad<|av c H6 (fun k7 H8=>M<|O c<|ah<|D ⟨(-1),c,H8⟩) fun k7 H8=>an<|ak<|M<|J c<|J c<|p (kP c c)<|ad<|av c H8 (fun k9 H10=>M<|O c<|ah<|D ⟨1,c,H10⟩) fun k9 H10=>an<|M<|O c<|ah<|D ⟨0,c,H10⟩
def fX (a0:Int) (a1:Int):Int:=(bif (eF a0) then (bif (eF a1) then (0) else ((-1))) else (bif (eF a1) then (1) else (bif (decide (a0 < a1)) then ((-1)) else (bif (decide (a0 > a1)) then (1) else (0)))))
theorem pr_cmp_Compare_int (a0:Int) (a1:Int) {K:Int→Hp→Prop} {h:Hp} (k:K (fX a0 a1) h):tf a0 a1 K h:=(kz (K:=K) (kz (K:=K) (fun k=>k) (fun k=>k)) (kz (K:=K) (fun k=>k) (kz (K:=K) (fun k=>k) (kz (K:=K) (fun k=>k) (fun k=>k))))) k
theorem ct_cmp_Compare_int (a0:Int) (a1:Int) (h:Hp):Ct Tryz.prog uI #[(.int .i64 a0),(.int .i64 a1)] h fun v h'=>∃ r,v = eJ r∧(r = fX a0 a1∧h' = h):=sim_cmp_Compare_int a0 a1 (pr_cmp_Compare_int a0 a1 ⟨rfl,rfl⟩)
def sh_judge_user (a0:aB) (K:Bool→Hp→Prop):Hp→Prop:=K (cO ((aE a0.fCall).1))
theorem sim_judge_user (a0:aB) {K:Bool→Hp→Prop} {h:Hp} (H:sh_judge_user a0 K h):Ct Tryz.prog n_judge_user #[(.agg (aB.C a0).toArray)] h fun v h'=>∃ r,v = aA r∧K r h':=aw [(.agg (aB.C a0).toArray)] Tryz.func139 c c c fun _=>M<|aa<|cA (l:=aB.C a0) c c c fun b1=>O c<|M<|p (ae nk c)<|bf (bE (k:=0) fy c c c c) c<|aa<|cK (vs:=[(.agg (ai.C a0.fCall).toArray)]) (bv<|kx a0.fCall _) en_63 c c<|J c<|p (aj c c)<|p (aj c c)<|p (ar c)<|O c<|M<|J c<|aa<|cK (vs:=[(.int .i64 ((aE a0.fCall).1))]) (bv<|sB (aE a0.fCall).1 _) en_64 c c<|O c<|ah<|D ⟨cO (aE a0.fCall).1,c,H⟩
def jv (a0:aB):Bool:=((cO ((aE a0.fCall).1)))
theorem pr_judge_user (a0:aB) {K:Bool→Hp→Prop} {h:Hp} (k:K (jv a0) h):sh_judge_user a0 K h:=(fun k=>k) k
theorem ct_judge_user (a0:aB) (h:Hp):Ct Tryz.prog n_judge_user #[(.agg (aB.C a0).toArray)] h fun v h'=>∃ r,v = aA r∧(r = jv a0∧h' = h):=sim_judge_user a0 (pr_judge_user a0 ⟨rfl,rfl⟩)
def pO (a0:au) (K:au→Hp→Prop):Hp→Prop:=K (⟨(IntKind.i64.wrap (1 + ((IntKind.i64.wrap ((a0.fCores.tmod 4) + 4)).tmod 4))),(IntKind.i64.wrap (1 + ((IntKind.i64.wrap ((a0.fEnvs.tmod 3) + 3)).tmod 3))),(IntKind.i64.wrap (1 + ((IntKind.i64.wrap ((a0.fFrames.tmod 6) + 6)).tmod 6)))⟩:au)
theorem wR (a0:au) {K:au→Hp→Prop} {h:Hp} (H:pO a0 K h):Ct Tryz.prog qZ #[(.agg (au.C a0).toArray)] h fun v h'=>∃ r,v = R_api_Size r∧K r h':=aw [(.agg (au.C a0).toArray)] Tryz.func21 c c c fun _=>M<|aa<|cA (l:=au.C a0) c c c fun b1=>aa<|aP (l:=au.C (⟨0,0,0⟩:au)) zero_25 c c fun b2=>ad<|M<|p (ae lS c)<|bf (ba (k:=1) aS c c c) c<|p (v_rem c c (by decide))<|p (bn c c)<|p (v_rem c c (by decide))<|p (bn c c)<|p (ae kH c)<|bf (ba (k:=1) aS c c c) c<|p (v_rem c c (by decide))<|p (bn c c)<|p (v_rem c c (by decide))<|p (bn c c)<|p (ae tE c)<|bf (ba (k:=1) aS c c c) c<|p (v_rem c c (by decide))<|p (bn c c)<|p (v_rem c c (by decide))<|p (bn c c)<|p (bd c<|tO (IntKind.i64.wrap (1 + ((IntKind.i64.wrap ((a0.fCores.tmod 4) + 4)).tmod 4))) (IntKind.i64.wrap (1 + ((IntKind.i64.wrap ((a0.fEnvs.tmod 3) + 3)).tmod 3)))<|IntKind.i64.wrap (1 + ((IntKind.i64.wrap ((a0.fFrames.tmod 6) + 6)).tmod 6)))<|aa<|aR (k:=0) (vs:=au.C (⟨(IntKind.i64.wrap (1 + ((IntKind.i64.wrap ((a0.fCores.tmod 4) + 4)).tmod 4))),(IntKind.i64.wrap (1 + ((IntKind.i64.wrap ((a0.fEnvs.tmod 3) + 3)).tmod 3))),(IntKind.i64.wrap (1 + ((IntKind.i64.wrap ((a0.fFrames.tmod 6) + 6)).tmod 6)))⟩:au)) inf_25 c c c c c c c<|ad<|ah<|bA (mI c<|bF (k:=0) c mK c c) ⟨(⟨(IntKind.i64.wrap (1 + ((IntKind.i64.wrap ((a0.fCores.tmod 4) + 4)).tmod 4))),(IntKind.i64.wrap (1 + ((IntKind.i64.wrap ((a0.fEnvs.tmod 3) + 3)).tmod 3))),(IntKind.i64.wrap (1 + ((IntKind.i64.wrap ((a0.fFrames.tmod 6) + 6)).tmod 6)))⟩:au),c,H⟩
def bK (a0:au):au:=((⟨(IntKind.i64.wrap (1 + ((IntKind.i64.wrap ((a0.fCores.tmod 4) + 4)).tmod 4))),(IntKind.i64.wrap (1 + ((IntKind.i64.wrap ((a0.fEnvs.tmod 3) + 3)).tmod 3))),(IntKind.i64.wrap (1 + ((IntKind.i64.wrap ((a0.fFrames.tmod 6) + 6)).tmod 6)))⟩:au))
theorem pr_messuagelaw16_Size (a0:au) {K:au→Hp→Prop} {h:Hp} (k:K (bK a0) h):pO a0 K h:=(fun k=>k) k
theorem ct_messuagelaw16_Size (a0:au) (h:Hp):Ct Tryz.prog qZ #[(.agg (au.C a0).toArray)] h fun v h'=>∃ r,v = R_api_Size r∧(r = bK a0∧h' = h):=wR a0 (pr_messuagelaw16_Size a0 ⟨rfl,rfl⟩)
end Go.Proofs.YtemoifebbhoinaaGreatDoor
