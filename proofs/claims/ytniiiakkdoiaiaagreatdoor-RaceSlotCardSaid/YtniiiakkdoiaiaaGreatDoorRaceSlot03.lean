/- Part of the proof of: The law RaceSlot returns true for every input, and leaves its arguments as they were. -/
import Derived.Test.YtniiiakkdoiaiaaGreatDoorRaceSlot02
set_option linter.all false
set_option maxRecDepth 20000
namespace Go.Proofs.YtniiiakkdoiaiaaGreatDoor
open Go Mb
set_option linter.unusedVariables false
structure ae where
  e0:Int
  e1:Int
  e2:Int
  e3:Int
  e4:Int
def ae.C (x:ae):List Value:=[.int .u64 x.e0,.int .u64 x.e1,.int .u64 x.e2,.int .u64 x.e3,.int .u64 x.e4]
structure du where
  fKind:Int
  fCore:Int
  fEnv:Int
  fCall:ae
  fSet:Int
  fWay:Int
def du.C (x:du):List Value:=[.int .i64 x.fKind,.int .i64 x.fCore,.int .i64 x.fEnv,.int .u64 x.fCall.e0,.int .u64 x.fCall.e1,.int .u64 x.fCall.e2,.int .u64 x.fCall.e3,.int .u64 x.fCall.e4,.int .i64 x.fSet,.int .i64 x.fWay]
structure ab where
  fErr:Int
  fVal:Int
def ab.C (x:ab):List Value:=[.int .i64 x.fErr,.int .u64 x.fVal]
structure al where
  fEnv:Int
  fPage:Int
  fFrame:Int
  fRights:Int
def al.C (x:al):List Value:=[.int .i64 x.fEnv,.int .i64 x.fPage,.int .i64 x.fFrame,.int .i64 x.fRights]
structure au where
  fCore:Int
  fEnv:Int
  fCall:ae
  fBegin:Int
  fEffect:Int
  fEnd:Int
  fAnswer:ab
  fLine:al
def au.C (x:au):List Value:=[.int .i64 x.fCore,.int .i64 x.fEnv,.int .u64 x.fCall.e0,.int .u64 x.fCall.e1,.int .u64 x.fCall.e2,.int .u64 x.fCall.e3,.int .u64 x.fCall.e4,.int .i64 x.fBegin,.int .i64 x.fEffect,.int .i64 x.fEnd,.int .i64 x.fAnswer.fErr,.int .u64 x.fAnswer.fVal,.int .i64 x.fLine.fEnv,.int .i64 x.fLine.fPage,.int .i64 x.fLine.fFrame,.int .i64 x.fLine.fRights]
structure aC where
  fCores:Int
  fEnvs:Int
  fFrames:Int
def aC.C (x:aC):List Value:=[.int .i64 x.fCores,.int .i64 x.fEnvs,.int .i64 x.fFrames]
structure sw where
  fl:Sl
def sw.C (x:sw):List Value:=[sv x.fl]
structure nQ where
  frefs:Sl
def nQ.C (x:nQ):List Value:=[sv x.frefs]
structure nT where
  fl:Sl
def nT.C (x:nT):List Value:=[sv x.fl]
structure gf where
  fs:aC
  fm:Ptr
  ftables:Sl
  fpool:Ptr
  fcaps:Ptr
def gf.C (x:gf):List Value:=[.int .i64 x.fs.fCores,.int .i64 x.fs.fEnvs,.int .i64 x.fs.fFrames,pv x.fm,sv x.ftables,pv x.fpool,pv x.fcaps]
structure nR where
  fl:Sl
def nR.C (x:nR):List Value:=[sv x.fl]
structure jF where
  fowner:Sl
  fheard:Sl
def jF.C (x:jF):List Value:=[sv x.fowner,sv x.fheard]
structure fE where
  fp:Ptr
  fenvs:Int
  ftlbs:Sl
  fboxes:Ptr
  fepochs:Ptr
  fcalls:Sl
  fevents:Sl
  fnow:Int
def fE.C (x:fE):List Value:=[pv x.fp,.int .i64 x.fenvs,sv x.ftlbs,pv x.fboxes,pv x.fepochs,sv x.fcalls,sv x.fevents,.int .i64 x.fnow]
structure lE where
  fat:Int
  fenv:Int
  fc:ae
  ftold:Bool
  fepoch:Int
def lE.C (x:lE):List Value:=[.int .i64 x.fat,.int .i64 x.fenv,.int .u64 x.fc.e0,.int .u64 x.fc.e1,.int .u64 x.fc.e2,.int .u64 x.fc.e3,.int .u64 x.fc.e4,.bool x.ftold,.int .u64 x.fepoch]
structure am where
  fFrame:Int
  fSlot:Int
  fRights:Int
def am.C (x:am):List Value:=[.int .i64 x.fFrame,.int .i64 x.fSlot,.int .i64 x.fRights]
structure aA where
  fFrame:Int
  fRights:Int
  fEnv:Int
  fSlot:Int
def aA.C (x:aA):List Value:=[.int .i64 x.fFrame,.int .i64 x.fRights,.int .i64 x.fEnv,.int .i64 x.fSlot]
structure ci where
  fl:al
  fwhen:Int
def ci.C (x:ci):List Value:=[.int .i64 x.fl.fEnv,.int .i64 x.fl.fPage,.int .i64 x.fl.fFrame,.int .i64 x.fl.fRights,.int .i64 x.fwhen]
structure ja where
  e0:ci
  e1:ci
def ja.C (x:ja):List Value:=[.int .i64 x.e0.fl.fEnv,.int .i64 x.e0.fl.fPage,.int .i64 x.e0.fl.fFrame,.int .i64 x.e0.fl.fRights,.int .i64 x.e0.fwhen,.int .i64 x.e1.fl.fEnv,.int .i64 x.e1.fl.fPage,.int .i64 x.e1.fl.fFrame,.int .i64 x.e1.fl.fRights,.int .i64 x.e1.fwhen]
structure aE where
  fEnv:Int
  fSlot:Int
def aE.C (x:aE):List Value:=[.int .i64 x.fEnv,.int .i64 x.fSlot]
structure ky where
  fes:Sl
  fs:aC
  fk:Ptr
def ky.C (x:ky):List Value:=[sv x.fes,.int .i64 x.fs.fCores,.int .i64 x.fs.fEnvs,.int .i64 x.fs.fFrames,pv x.fk]
structure bW where
  fCode:Int
  fEnv:Int
  fCall:ae
  fErr:Value
def bW.C (x:bW):List Value:=[.int .i64 x.fCode,.int .i64 x.fEnv,.int .u64 x.fCall.e0,.int .u64 x.fCall.e1,.int .u64 x.fCall.e2,.int .u64 x.fCall.e3,.int .u64 x.fCall.e4,x.fErr]
structure aH where
  ftyp_:Ptr
  fptr:Ptr
  fflag:Int
def aH.C (x:aH):List Value:=[pv x.ftyp_,pv x.fptr,.int .u64 x.fflag]
structure nS where
  fv:Int
  fn:Int
def nS.C (x:nS):List Value:=[.int .u64 x.fv,.int .i64 x.fn]
structure kx where
  fdrawn:Ptr
  fpassed:Ptr
def kx.C (x:kx):List Value:=[pv x.fdrawn,pv x.fpassed]
def nU (r:Sl):Value:=(sv r)
abbrev ny:Nat:=23
abbrev dF:Nat:=41
def cz (r:Sl):Value:=(sv r)
theorem hO:Slc Tryz.prog 41 3 1:=⟨Tryz.underlying41,bG (by kernel_rfl)⟩
theorem build_29_0_1 (y0:Int) (y1:Int):∀ w,(Instr.build 29 #[(0,(.int .i64 y0)),(1,(.int .i64 y1))]).run Tryz.prog w = .ok (.agg (du.C (⟨y0,y1,0,(⟨0,0,0,0,0⟩:ae),0,0⟩:du)).toArray) w:=fun _=>by kernel_rfl
theorem aY:Sc Tryz.prog 3:=⟨⟨_,Tryz.underlying3,rfl⟩,bG (by kernel_rfl)⟩
abbrev uK:Nat:=11
def eA (r:Int):Value:=(.int .i64 r)
theorem slc_23:Slc Tryz.prog 23 29 10:=⟨Tryz.underlying23,bG (by kernel_rfl)⟩
theorem zero_29:∃ i,Tryz.prog.info? 29 = some i∧i.zero = some (.agg (du.C (⟨0,0,0,(⟨0,0,0,0,0⟩:ae),0,0⟩:du)).toArray):=jP (by kernel_rfl)
theorem fld_29_0:Fld Tryz.prog 29 0 0:=bX (m:=1) Tryz.underlying29 rfl rfl (by kernel_rfl) (by decide)
theorem fld_29_1:Fld Tryz.prog 29 1 1:=bX (m:=1) Tryz.underlying29 rfl rfl (by kernel_rfl) (by decide)
theorem inf_29:∃ i,Tryz.prog.info? 29 = some i∧i.size = 10:=bG (by kernel_rfl)
theorem ag_29:Ag Tryz.prog 29 10:=⟨⟨_,Tryz.underlying29,rfl⟩,bG (by kernel_rfl)⟩
abbrev oK:Nat:=13
def aB (r:Bool):Value:=(.bool r)
theorem en_13:aJ Tryz.prog 13:=⟨_,Tryz.func13,by decide,rfl⟩
abbrev n_fair_Fair:Nat:=12
theorem qQ:Fld Tryz.prog 51 0 0:=bX (m:=1) Tryz.underlying51 rfl rfl (by kernel_rfl) (by decide)
theorem oP:Fld Tryz.prog 35 0 0:=bX (m:=1) Tryz.underlying35 rfl rfl (by kernel_rfl) (by decide)
theorem oO:Fld Tryz.prog 51 1 1:=bX (m:=1) Tryz.underlying51 rfl rfl (by kernel_rfl) (by decide)
theorem mP:Fld Tryz.prog 35 1 1:=bX (m:=1) Tryz.underlying35 rfl rfl (by kernel_rfl) (by decide)
theorem tf:Fld Tryz.prog 51 3 7:=bX (m:=1) Tryz.underlying51 rfl rfl (by kernel_rfl) (by decide)
theorem iX:Fld Tryz.prog 51 4 8:=bX (m:=1) Tryz.underlying51 rfl rfl (by kernel_rfl) (by decide)
theorem qP:Fld Tryz.prog 51 5 9:=bX (m:=1) Tryz.underlying51 rfl rfl (by kernel_rfl) (by decide)
abbrev n_hist_one:Nat:=52
abbrev jr:Nat:=86
def R_map_int_bool (r:(Option Nat)):Value:=(.map r)
abbrev gQ:Nat:=87
def R_map_int_int (r:(Option Nat)):Value:=(.map r)
theorem qW:Slc Tryz.prog 39 51 16:=⟨Tryz.underlying39,bG (by kernel_rfl)⟩
theorem tC:∃ i,Tryz.prog.info? 51 = some i∧i.zero = some (.agg (au.C (⟨0,0,(⟨0,0,0,0,0⟩:ae),0,0,0,(⟨0,0⟩:ab),(⟨0,0,0,0⟩:al)⟩:au)).toArray):=jP (by kernel_rfl)
theorem ux:Ag Tryz.prog 51 16:=⟨⟨_,Tryz.underlying51,rfl⟩,bG (by kernel_rfl)⟩
theorem pD:Ag Tryz.prog 35 3:=⟨⟨_,Tryz.underlying35,rfl⟩,bG (by kernel_rfl)⟩
def bK (r:Int × Bool):Value:=.tuple #[(.int .i64 r.1),(.bool r.2)]
theorem ck:Tryz.prog.follows .mixedOrders = true:=by kernel_rfl
theorem en_52:aJ Tryz.prog 52:=⟨_,Tryz.func52,by decide,rfl⟩
theorem inf_51:∃ i,Tryz.prog.info? 51 = some i∧i.size = 16:=bG (by kernel_rfl)
abbrev wX:Nat:=19
abbrev qi:Nat:=53
abbrev mX:Nat:=56
def R_ (_:Unit):Value:=.tuple #[]
theorem qM:∃ i,Tryz.prog.info? 3 = some i∧i.size = 1:=bG (by kernel_rfl)
abbrev bV:Nat:=135
abbrev kj:Nat:=136
theorem en_136:aJ Tryz.prog 136:=⟨_,Tryz.func136,by decide,rfl⟩
theorem en_135:aJ Tryz.prog 135:=⟨_,Tryz.func135,by decide,rfl⟩
abbrev lh:Nat:=88
theorem en_88:aJ Tryz.prog 88:=⟨_,Tryz.func88,by decide,rfl⟩
abbrev fG:Nat:=57
abbrev n_cmp_isNaN_int:Nat:=89
theorem en_89:aJ Tryz.prog 89:=⟨_,Tryz.func89,by decide,rfl⟩
abbrev uq:Nat:=59
theorem en_59:aJ Tryz.prog 59:=⟨_,Tryz.func59,by decide,rfl⟩
theorem sc_39:Sc Tryz.prog 39:=⟨⟨_,Tryz.underlying39,rfl⟩,bG (by kernel_rfl)⟩
abbrev rd:Nat:=58
theorem en_57:aJ Tryz.prog 57:=⟨_,Tryz.func57,by decide,rfl⟩
theorem en_53:aJ Tryz.prog 53:=⟨_,Tryz.func53,by decide,rfl⟩
abbrev eK:Nat:=39
abbrev oJ:Nat:=26
def tx (r:Ptr):Value:=(pv r)
theorem build_181  : ∀ w,(Instr.build 181 #[]).run Tryz.prog w = .ok (.agg (sw.C (⟨(⟨none,0,0,none⟩:Sl)⟩:sw)).toArray) w:=fun _=>by kernel_rfl
theorem sq:Fld Tryz.prog 181 0 0:=bX (m:=1) Tryz.underlying181 rfl rfl (by kernel_rfl) (by decide)
abbrev bd:Nat:=80
def cd (r:Sl):Value:=(sv r)
abbrev pN:Nat:=135
def R_SSuint64 (r:Sl):Value:=(sv r)
theorem inf_135:∃ i,Tryz.prog.info? 135 = some i∧i.size = 1:=bG (by kernel_rfl)
theorem kX:Sc Tryz.prog 135:=⟨⟨_,Tryz.underlying135,rfl⟩,bG (by kernel_rfl)⟩
abbrev lF:Nat:=181
abbrev vv:Nat:=90
def sf (r:Ptr):Value:=(pv r)
theorem build_183_0 (y0:Sl):∀ w,(Instr.build 183 #[(0,(sv y0))]).run Tryz.prog w = .ok (.agg (nQ.C (⟨y0⟩:nQ)).toArray) w:=fun _=>by kernel_rfl
abbrev qt:Nat:=183
abbrev wV:Nat:=91
def si (r:Ptr):Value:=(pv r)
abbrev t_S_8_api_Cap:Nat:=184
def R_S_8_api_Cap (r:Sl):Value:=(sv r)
theorem build_186_0 (y0:Sl):∀ w,(Instr.build 186 #[(0,(sv y0))]).run Tryz.prog w = .ok (.agg (nT.C (⟨y0⟩:nT)).toArray) w:=fun _=>by kernel_rfl
abbrev nv:Nat:=186
abbrev wY:Nat:=92
def im (r:Ptr):Value:=(pv r)
abbrev kq:Nat:=189
abbrev lf:Nat:=93
def dJ (r:Ptr):Value:=(pv r)
theorem vB:Fld Tryz.prog 35 2 2:=bX (m:=1) Tryz.underlying35 rfl rfl (by kernel_rfl) (by decide)
theorem build_132_0_1_3_4 (y0:aC) (y1:Ptr) (y3:Ptr) (y4:Ptr):∀ w,(Instr.build 132 #[(0,(.agg (aC.C y0).toArray)),(1,(pv y1)),(3,(pv y3)),(4,(pv y4))]).run Tryz.prog w = .ok (.agg (gf.C (⟨y0,y1,(⟨none,0,0,none⟩:Sl),y3,y4⟩:gf)).toArray) w:=fun _=>by kernel_rfl
theorem eX:Fld Tryz.prog 132 2 4:=bX (m:=1) Tryz.underlying132 rfl rfl (by kernel_rfl) (by decide)
abbrev eL:Nat:=130
def mY (r:Sl):Value:=(sv r)
theorem inf_130:∃ i,Tryz.prog.info? 130 = some i∧i.size = 1:=bG (by kernel_rfl)
theorem en_93:aJ Tryz.prog 93:=⟨_,Tryz.func93,by decide,rfl⟩
theorem mn:Sc Tryz.prog 130:=⟨⟨_,Tryz.underlying130,rfl⟩,bG (by kernel_rfl)⟩
abbrev cx:Nat:=132
theorem en_92:aJ Tryz.prog 92:=⟨_,Tryz.func92,by decide,rfl⟩
theorem en_91:aJ Tryz.prog 91:=⟨_,Tryz.func91,by decide,rfl⟩
theorem en_90:aJ Tryz.prog 90:=⟨_,Tryz.func90,by decide,rfl⟩
abbrev nF:Nat:=60
def oU (r:Ptr):Value:=(pv r)
theorem build_137_0 (y0:Sl):∀ w,(Instr.build 137 #[(0,(sv y0))]).run Tryz.prog w = .ok (.agg (nR.C (⟨y0⟩:nR)).toArray) w:=fun _=>by kernel_rfl
abbrev kV:Nat:=137
abbrev sX:Nat:=61
def iF (r:Ptr):Value:=(pv r)
theorem build_139_1 (y1:Sl):∀ w,(Instr.build 139 #[(1,(sv y1))]).run Tryz.prog w = .ok (.agg (jF.C (⟨(⟨none,0,0,none⟩:Sl),y1⟩:jF)).toArray) w:=fun _=>by kernel_rfl
abbrev hH:Nat:=139
abbrev nI:Nat:=62
def R_api_Line (r:al):Value:=(.agg (al.C r).toArray)
theorem kK:∃ i,Tryz.prog.info? 49 = some i∧i.zero = some (.agg (al.C (⟨0,0,0,0⟩:al)).toArray):=jP (by kernel_rfl)
theorem build_49_0 (y0:Int):∀ w,(Instr.build 49 #[(0,(.int .i64 y0))]).run Tryz.prog w = .ok (.agg (al.C (⟨y0,0,0,0⟩:al)).toArray) w:=fun _=>by kernel_rfl
theorem gV:Ag Tryz.prog 49 4:=⟨⟨_,Tryz.underlying49,rfl⟩,bG (by kernel_rfl)⟩
theorem fH:∃ i,Tryz.prog.info? 49 = some i∧i.size = 4:=bG (by kernel_rfl)
abbrev n_tlb_empty:Nat:=117
theorem fld_145_0:Fld Tryz.prog 145 0 0:=bX (m:=40) Tryz.underlying145 rfl rfl (by kernel_rfl) (by decide)
theorem arr_143:Arr Tryz.prog 143 4 142 10:=⟨Tryz.underlying143,bG (by kernel_rfl)⟩
theorem arr_142:Arr Tryz.prog 142 2 141 5:=⟨Tryz.underlying142,bG (by kernel_rfl)⟩
theorem pZ:Fld Tryz.prog 141 0 0:=bX (m:=4) Tryz.underlying141 rfl rfl (by kernel_rfl) (by decide)
theorem en_117:aJ Tryz.prog 117:=⟨_,Tryz.func117,by decide,rfl⟩
abbrev ra:Nat:=94
def gB (r:Ptr):Value:=(pv r)
abbrev pL:Nat:=145
theorem en_94:aJ Tryz.prog 94:=⟨_,Tryz.func94,by decide,rfl⟩
abbrev iB:Nat:=63
def sg (r:Ptr):Value:=(pv r)
abbrev mI:Nat:=99
def qn (r:Sl):Value:=(sv r)
theorem my (y0:Ptr) (y1:Int) (y3:Ptr) (y4:Ptr) (y5:Sl):∀ w,(Instr.build 102 #[(0,(pv y0)),(1,(.int .i64 y1)),(3,(pv y3)),(4,(pv y4)),(5,(sv y5))]).run Tryz.prog w = .ok (.agg (fE.C (⟨y0,y1,(⟨none,0,0,none⟩:Sl),y3,y4,y5,(⟨none,0,0,none⟩:Sl),0⟩:fE)).toArray) w:=fun _=>by kernel_rfl
theorem iD:Fld Tryz.prog 102 2 2:=bX (m:=1) Tryz.underlying102 rfl rfl (by kernel_rfl) (by decide)
abbrev bQ:Nat:=100
def dL (r:Sl):Value:=(sv r)
theorem inf_100:∃ i,Tryz.prog.info? 100 = some i∧i.size = 1:=bG (by kernel_rfl)
theorem en_63:aJ Tryz.prog 63:=⟨_,Tryz.func63,by decide,rfl⟩
theorem wN:Sc Tryz.prog 100:=⟨⟨_,Tryz.underlying100,rfl⟩,bG (by kernel_rfl)⟩
abbrev cg:Nat:=102
theorem en_62:aJ Tryz.prog 62:=⟨_,Tryz.func62,by decide,rfl⟩
theorem en_61:aJ Tryz.prog 61:=⟨_,Tryz.func61,by decide,rfl⟩
theorem en_60:aJ Tryz.prog 60:=⟨_,Tryz.func60,by decide,rfl⟩
abbrev wW:Nat:=28
def dQ (r:Sl):Value:=(sv r)
abbrev eO:Nat:=79
theorem vH:Fld Tryz.prog 102 6 6:=bX (m:=1) Tryz.underlying102 rfl rfl (by kernel_rfl) (by decide)
theorem en_79:aJ Tryz.prog 79:=⟨_,Tryz.func79,by decide,rfl⟩
abbrev eP:Nat:=37
theorem qa:Fld Tryz.prog 102 5 5:=bX (m:=1) Tryz.underlying102 rfl rfl (by kernel_rfl) (by decide)
theorem sc_99:Sc Tryz.prog 99:=⟨⟨_,Tryz.underlying99,rfl⟩,bG (by kernel_rfl)⟩
abbrev jw:Nat:=74
theorem slc_99:Slc Tryz.prog 99 105 1:=⟨Tryz.underlying99,bG (by kernel_rfl)⟩
theorem sc_105:Sc Tryz.prog 105:=⟨⟨_,Tryz.underlying105,rfl⟩,bG (by kernel_rfl)⟩
theorem en_74:aJ Tryz.prog 74:=⟨_,Tryz.func74,by decide,rfl⟩
abbrev fP:Nat:=34
theorem fld_102_1:Fld Tryz.prog 102 1 1:=bX (m:=1) Tryz.underlying102 rfl rfl (by kernel_rfl) (by decide)
theorem lZ:Fld Tryz.prog 102 7 7:=bX (m:=1) Tryz.underlying102 rfl rfl (by kernel_rfl) (by decide)
theorem fh:Ag Tryz.prog 27 5:=⟨⟨_,Tryz.underlying27,rfl⟩,bG (by kernel_rfl)⟩
theorem build_51_0_1_2_3 (y0:Int) (y1:Int) (y2:ae) (y3:Int):∀ w,(Instr.build 51 #[(0,(.int .i64 y0)),(1,(.int .i64 y1)),(2,(.agg (ae.C y2).toArray)),(3,(.int .i64 y3))]).run Tryz.prog w = .ok (.agg (au.C (⟨y0,y1,y2,y3,0,0,(⟨0,0⟩:ab),(⟨0,0,0,0⟩:al)⟩:au)).toArray) w:=fun _=>by kernel_rfl
theorem build_108_0_1_2 (y0:Int) (y1:Int) (y2:ae):∀ w,(Instr.build 108 #[(0,(.int .i64 y0)),(1,(.int .i64 y1)),(2,(.agg (ae.C y2).toArray))]).run Tryz.prog w = .ok (.agg (lE.C (⟨y0,y1,y2,false,0⟩:lE)).toArray) w:=fun _=>by kernel_rfl
theorem inf_105:∃ i,Tryz.prog.info? 105 = some i∧i.size = 1:=bG (by kernel_rfl)
abbrev cO:Nat:=108
theorem inf_39:∃ i,Tryz.prog.info? 39 = some i∧i.size = 1:=bG (by kernel_rfl)
theorem en_34:aJ Tryz.prog 34:=⟨_,Tryz.func34,by decide,rfl⟩
abbrev kQ:Nat:=33
theorem de:Arr Tryz.prog 27 5 25 1:=⟨Tryz.underlying27,bG (by kernel_rfl)⟩
theorem cu:Sc Tryz.prog 25:=⟨⟨_,Tryz.underlying25,rfl⟩,bG (by kernel_rfl)⟩
abbrev n_word_Kind:Nat:=64
abbrev n_word_User:Nat:=65
abbrev rS:Nat:=137
def ae.get (x:ae) (i:Int):Int:=match i.toNat with | 0=>x.e0 | 1=>x.e1 | 2=>x.e2 | 3=>x.e3 | 4=>x.e4 | _=>x.e4
theorem at_27 (x:ae) (i:Int) (h:0 ≤ i∧i < 5):(ae.C x)[0 + i.toNat * 1]? = some (.int .u64 (ae.get x i)):=by
  obtain ⟨n,rfl⟩:=Int.eq_ofNat_of_zero_le h.1
  have h2:n < 5:=by omega
  rcases n with _ | (_ | (_ | (_ | (_ | _)))) <;> first | rfl | omega
abbrev na:Nat:=144
abbrev n_word_Rights:Nat:=176
theorem en_144:aJ Tryz.prog 144:=⟨_,Tryz.func144,by decide,rfl⟩
theorem en_176:aJ Tryz.prog 176:=⟨_,Tryz.func176,by decide,rfl⟩
abbrev n_word_fits:Nat:=138
def bc (r:Int):Value:=(.int .i64 r)
theorem en_138:aJ Tryz.prog 138:=⟨_,Tryz.func138,by decide,rfl⟩
theorem en_137:aJ Tryz.prog 137:=⟨_,Tryz.func137,by decide,rfl⟩
theorem en_64:aJ Tryz.prog 64:=⟨_,Tryz.func64,by decide,rfl⟩
abbrev gM:Nat:=95
theorem vF:Fld Tryz.prog 132 0 0:=bX (m:=3) Tryz.underlying132 rfl rfl (by kernel_rfl) (by decide)
abbrev jX:Nat:=107
abbrev n_table_is:Nat:=140
def cy (r:am × Bool):Value:=.tuple #[(.agg (am.C r.1).toArray),(.bool r.2)]
theorem fU:∃ i,Tryz.prog.info? 74 = some i∧i.zero = some (.agg (am.C (⟨0,0,0⟩:am)).toArray):=jP (by kernel_rfl)
theorem mQ  : ∀ w,(Instr.build 74 #[]).run Tryz.prog w = .ok (.agg (am.C (⟨0,0,0⟩:am)).toArray) w:=fun _=>by kernel_rfl
theorem fD:Ag Tryz.prog 74 3:=⟨⟨_,Tryz.underlying74,rfl⟩,bG (by kernel_rfl)⟩
theorem dO:∃ i,Tryz.prog.info? 74 = some i∧i.size = 3:=bG (by kernel_rfl)
theorem kv:Fld Tryz.prog 189 0 0:=bX (m:=24) Tryz.underlying189 rfl rfl (by kernel_rfl) (by decide)
theorem se:Arr Tryz.prog 187 8 74 3:=⟨Tryz.underlying187,bG (by kernel_rfl)⟩
theorem eI:Fld Tryz.prog 74 2 2:=bX (m:=1) Tryz.underlying74 rfl rfl (by kernel_rfl) (by decide)
theorem en_140:aJ Tryz.prog 140:=⟨_,Tryz.func140,by decide,rfl⟩
abbrev eT:Nat:=119
theorem mS:Slc Tryz.prog 130 133 1:=⟨Tryz.underlying130,bG (by kernel_rfl)⟩
theorem en_119:aJ Tryz.prog 119:=⟨_,Tryz.func119,by decide,rfl⟩
theorem qY:Sc Tryz.prog 133:=⟨⟨_,Tryz.underlying133,rfl⟩,bG (by kernel_rfl)⟩
theorem en_107:aJ Tryz.prog 107:=⟨_,Tryz.func107,by decide,rfl⟩
abbrev fO:Nat:=81
theorem gX:Fld Tryz.prog 186 0 0:=bX (m:=1) Tryz.underlying186 rfl rfl (by kernel_rfl) (by decide)
theorem pQ:Sc Tryz.prog 184:=⟨⟨_,Tryz.underlying184,rfl⟩,bG (by kernel_rfl)⟩
abbrev ie:Nat:=162
def cM (r:aA × Bool):Value:=.tuple #[(.agg (aA.C r.1).toArray),(.bool r.2)]
theorem io:∃ i,Tryz.prog.info? 70 = some i∧i.zero = some (.agg (aA.C (⟨0,0,0,0⟩:aA)).toArray):=jP (by kernel_rfl)
theorem build_70  : ∀ w,(Instr.build 70 #[]).run Tryz.prog w = .ok (.agg (aA.C (⟨0,0,0,0⟩:aA)).toArray) w:=fun _=>by kernel_rfl
theorem ag_70:Ag Tryz.prog 70 4:=⟨⟨_,Tryz.underlying70,rfl⟩,bG (by kernel_rfl)⟩
theorem gA:∃ i,Tryz.prog.info? 70 = some i∧i.size = 4:=bG (by kernel_rfl)
theorem oh:Slc Tryz.prog 184 210 32:=⟨Tryz.underlying184,bG (by kernel_rfl)⟩
theorem qm:Arr Tryz.prog 210 8 70 4:=⟨Tryz.underlying210,bG (by kernel_rfl)⟩
theorem gH:Fld Tryz.prog 70 1 1:=bX (m:=1) Tryz.underlying70 rfl rfl (by kernel_rfl) (by decide)
theorem en_162:aJ Tryz.prog 162:=⟨_,Tryz.func162,by decide,rfl⟩
abbrev dX:Nat:=118
theorem fz:Fld Tryz.prog 132 4 6:=bX (m:=1) Tryz.underlying132 rfl rfl (by kernel_rfl) (by decide)
theorem tk:aJ Tryz.prog 118:=⟨_,Tryz.func118,by decide,rfl⟩
theorem hY:Sc Tryz.prog 128:=⟨⟨_,Tryz.underlying128,rfl⟩,bG (by kernel_rfl)⟩
abbrev ib:Nat:=80
abbrev n_pte_May:Nat:=150
theorem en_150:aJ Tryz.prog 150:=⟨_,Tryz.func150,by decide,rfl⟩
abbrev n_pte_Within:Nat:=101
theorem eY:Fld Tryz.prog 108 2 2:=bX (m:=5) Tryz.underlying108 rfl rfl (by kernel_rfl) (by decide)
theorem nP:Fld Tryz.prog 102 0 0:=bX (m:=1) Tryz.underlying102 rfl rfl (by kernel_rfl) (by decide)
theorem qO:Fld Tryz.prog 70 2 2:=bX (m:=1) Tryz.underlying70 rfl rfl (by kernel_rfl) (by decide)
theorem fld_70_3:Fld Tryz.prog 70 3 3:=bX (m:=1) Tryz.underlying70 rfl rfl (by kernel_rfl) (by decide)
theorem en_80:aJ Tryz.prog 80:=⟨_,Tryz.func80,by decide,rfl⟩
theorem vp:Sc Tryz.prog 93:=⟨⟨_,Tryz.underlying93,rfl⟩,bG (by kernel_rfl)⟩
abbrev fL:Nat:=70
theorem su:Fld Tryz.prog 108 1 1:=bX (m:=1) Tryz.underlying108 rfl rfl (by kernel_rfl) (by decide)
abbrev pT:Nat:=149
def vZ (r:am):Value:=(.agg (am.C r).toArray)
theorem td:Fld Tryz.prog 74 1 1:=bX (m:=1) Tryz.underlying74 rfl rfl (by kernel_rfl) (by decide)
theorem mw:aJ Tryz.prog 101:=⟨_,Tryz.func101,by decide,rfl⟩
theorem en_149:aJ Tryz.prog 149:=⟨_,Tryz.func149,by decide,rfl⟩
abbrev lR:Nat:=100
theorem en_100:aJ Tryz.prog 100:=⟨_,Tryz.func100,by decide,rfl⟩
theorem fld_108_3:Fld Tryz.prog 108 3 7:=bX (m:=1) Tryz.underlying108 rfl rfl (by kernel_rfl) (by decide)
theorem sc_4:Sc Tryz.prog 4:=⟨⟨_,Tryz.underlying4,rfl⟩,bG (by kernel_rfl)⟩
theorem en_81:aJ Tryz.prog 81:=⟨_,Tryz.func81,by decide,rfl⟩
abbrev lQ:Nat:=96
def bI (r:Int × Bool):Value:=.tuple #[(.int .u64 r.1),(.bool r.2)]
def am.eqb (x y:am):Bool:=((x.fFrame == y.fFrame) && ((x.fSlot == y.fSlot) && ((x.fRights == y.fRights) && true)))
theorem eqr_74 (n:Nat) (x y:am):EqR Tryz.prog (n + 2) 74 (.agg (am.C x).toArray) (.agg (am.C y).toArray) (am.eqb x y):=xp Tryz.underlying74 (by kernel_rfl) (lA (by decide) (gT aY rfl) (gT aY rfl) (jn (n:=n + 0) Tryz.underlying3) (lA (by decide) (gT aY rfl) (gT aY rfl) (jn (n:=n + 0) Tryz.underlying3) (lA (by decide) (gT aY rfl) (gT aY rfl) (jn (n:=n + 0) Tryz.underlying3) eqf_nil)))
theorem eqg_74:Tryz.prog.eqGuardType Tryz.prog.depth 74 = false:=by kernel_rfl
theorem qN:Fld Tryz.prog 74 0 0:=bX (m:=1) Tryz.underlying74 rfl rfl (by kernel_rfl) (by decide)
abbrev n_pte_Put:Nat:=139
theorem en_139:aJ Tryz.prog 139:=⟨_,Tryz.func139,by decide,rfl⟩
abbrev dW:Nat:=97
def jO (r:Ptr):Value:=(pv r)
theorem ko:Fld Tryz.prog 49 0 0:=bX (m:=1) Tryz.underlying49 rfl rfl (by kernel_rfl) (by decide)
theorem mO:Fld Tryz.prog 49 1 1:=bX (m:=1) Tryz.underlying49 rfl rfl (by kernel_rfl) (by decide)
abbrev oD:Nat:=151
theorem en_151:aJ Tryz.prog 151:=⟨_,Tryz.func151,by decide,rfl⟩
abbrev mU:Nat:=102
def fF (r:al × Bool):Value:=.tuple #[(.agg (al.C r.1).toArray),(.bool r.2)]
theorem lD  : ∀ w,(Instr.build 49 #[]).run Tryz.prog w = .ok (.agg (al.C (⟨0,0,0,0⟩:al)).toArray) w:=fun _=>by kernel_rfl
abbrev oE:Nat:=141
abbrev n_pte_Lets:Nat:=142
theorem fld_141_1:Fld Tryz.prog 141 1 4:=bX (m:=1) Tryz.underlying141 rfl rfl (by kernel_rfl) (by decide)
abbrev sU:Nat:=177
theorem lz:Fld Tryz.prog 49 2 2:=bX (m:=1) Tryz.underlying49 rfl rfl (by kernel_rfl) (by decide)
theorem qR:Fld Tryz.prog 49 3 3:=bX (m:=1) Tryz.underlying49 rfl rfl (by kernel_rfl) (by decide)
theorem fld_145_1:Fld Tryz.prog 145 1 40:=bX (m:=1) Tryz.underlying145 rfl rfl (by kernel_rfl) (by decide)
theorem build_141_0_1 (y0:al) (y1:Int):∀ w,(Instr.build 141 #[(0,(.agg (al.C y0).toArray)),(1,(.int .i64 y1))]).run Tryz.prog w = .ok (.agg (ci.C (⟨y0,y1⟩:ci)).toArray) w:=fun _=>by kernel_rfl
theorem inf_141:∃ i,Tryz.prog.info? 141 = some i∧i.size = 5:=bG (by kernel_rfl)
theorem en_177:aJ Tryz.prog 177:=⟨_,Tryz.func177,by decide,rfl⟩
abbrev oF:Nat:=143
theorem en_102:aJ Tryz.prog 102:=⟨_,Tryz.func102,by decide,rfl⟩
theorem vW (y0:Int) (y1:Int) (y2:Int) (y3:Int):∀ w,(Instr.build 49 #[(0,(.int .i64 y0)),(1,(.int .i64 y1)),(2,(.int .i64 y2)),(3,(.int .i64 y3))]).run Tryz.prog w = .ok (.agg (al.C (⟨y0,y1,y2,y3⟩:al)).toArray) w:=fun _=>by kernel_rfl
theorem en_143:aJ Tryz.prog 143:=⟨_,Tryz.func143,by decide,rfl⟩
theorem en_142:aJ Tryz.prog 142:=⟨_,Tryz.func142,by decide,rfl⟩
theorem en_141:aJ Tryz.prog 141:=⟨_,Tryz.func141,by decide,rfl⟩
abbrev ui:Nat:=98
abbrev vw:Nat:=188
def sx (r:Ptr):Value:=(pv r)
theorem lH:Slc Tryz.prog 135 80 1:=⟨Tryz.underlying135,bG (by kernel_rfl)⟩
theorem wm:Slc Tryz.prog 80 25 1:=⟨Tryz.underlying80,bG (by kernel_rfl)⟩
theorem sc_80:Sc Tryz.prog 80:=⟨⟨_,Tryz.underlying80,rfl⟩,bG (by kernel_rfl)⟩
theorem en_188:aJ Tryz.prog 188:=⟨_,Tryz.func188,by decide,rfl⟩
abbrev lO:Nat:=165
theorem en_165:aJ Tryz.prog 165:=⟨_,Tryz.func165,by decide,rfl⟩
abbrev ic:Nat:=145
theorem inf_25:∃ i,Tryz.prog.info? 25 = some i∧i.size = 1:=bG (by kernel_rfl)
abbrev fB:Nat:=146
theorem en_146:aJ Tryz.prog 146:=⟨_,Tryz.func146,by decide,rfl⟩
theorem en_145:aJ Tryz.prog 145:=⟨_,Tryz.func145,by decide,rfl⟩
abbrev qf:Nat:=147
abbrev qg:Nat:=148
def bg (r:ab × Bool):Value:=.tuple #[(.agg (ab.C r.1).toArray),(.bool r.2)]
theorem cY:∃ i,Tryz.prog.info? 47 = some i∧i.zero = some (.agg (ab.C (⟨0,0⟩:ab)).toArray):=jP (by kernel_rfl)
theorem tq  : ∀ w,(Instr.build 47 #[]).run Tryz.prog w = .ok (.agg (ab.C (⟨0,0⟩:ab)).toArray) w:=fun _=>by kernel_rfl
theorem cA:Ag Tryz.prog 47 2:=⟨⟨_,Tryz.underlying47,rfl⟩,bG (by kernel_rfl)⟩
theorem bL:∃ i,Tryz.prog.info? 47 = some i∧i.size = 2:=bG (by kernel_rfl)
theorem ke (y1:Int):∀ w,(Instr.build 47 #[(1,(.int .u64 y1))]).run Tryz.prog w = .ok (.agg (ab.C (⟨0,y1⟩:ab)).toArray) w:=fun _=>by kernel_rfl
theorem lY:Fld Tryz.prog 132 1 3:=bX (m:=1) Tryz.underlying132 rfl rfl (by kernel_rfl) (by decide)
theorem wM:Sc Tryz.prog 124:=⟨⟨_,Tryz.underlying124,rfl⟩,bG (by kernel_rfl)⟩
theorem en_147:aJ Tryz.prog 147:=⟨_,Tryz.func147,by decide,rfl⟩
theorem en_148:aJ Tryz.prog 148:=⟨_,Tryz.func148,by decide,rfl⟩
theorem en_65:aJ Tryz.prog 65:=⟨_,Tryz.func65,by decide,rfl⟩
abbrev eU:Nat:=99
def eG (r:ab × al):Value:=.tuple #[(.agg (ab.C r.1).toArray),(.agg (al.C r.2).toArray)]
theorem ji (y0:Int):∀ w,(Instr.build 47 #[(0,(.int .i64 y0))]).run Tryz.prog w = .ok (.agg (ab.C (⟨y0,0⟩:ab)).toArray) w:=fun _=>by kernel_rfl
theorem slc_100:Slc Tryz.prog 100 103 1:=⟨Tryz.underlying100,bG (by kernel_rfl)⟩
theorem en_99:aJ Tryz.prog 99:=⟨_,Tryz.func99,by decide,rfl⟩
theorem en_98:aJ Tryz.prog 98:=⟨_,Tryz.func98,by decide,rfl⟩
theorem sc_103:Sc Tryz.prog 103:=⟨⟨_,Tryz.underlying103,rfl⟩,bG (by kernel_rfl)⟩
theorem en_97:aJ Tryz.prog 97:=⟨_,Tryz.func97,by decide,rfl⟩
theorem en_96:aJ Tryz.prog 96:=⟨_,Tryz.func96,by decide,rfl⟩
theorem en_95:aJ Tryz.prog 95:=⟨_,Tryz.func95,by decide,rfl⟩
abbrev ni:Nat:=66
theorem fld_108_0:Fld Tryz.prog 108 0 0:=bX (m:=1) Tryz.underlying108 rfl rfl (by kernel_rfl) (by decide)
theorem km:Fld Tryz.prog 51 6 10:=bX (m:=2) Tryz.underlying51 rfl rfl (by kernel_rfl) (by decide)
theorem gc:Fld Tryz.prog 51 7 12:=bX (m:=4) Tryz.underlying51 rfl rfl (by kernel_rfl) (by decide)
abbrev lS:Nat:=67
abbrev oG:Nat:=68
def qT (r:Sl):Value:=(sv r)
abbrev t_2_tlb_line:Nat:=142
def R_tlb_line (r:ci):Value:=(.agg (ci.C r).toArray)
theorem zero_141:∃ i,Tryz.prog.info? 141 = some i∧i.zero = some (.agg (ci.C (⟨(⟨0,0,0,0⟩:al),0⟩:ci)).toArray):=jP (by kernel_rfl)
abbrev qx:Nat:=60
theorem ag_142:Ag Tryz.prog 142 10:=⟨⟨_,Tryz.underlying142,rfl⟩,bG (by kernel_rfl)⟩
abbrev qZ:Nat:=77
theorem slc_60:Slc Tryz.prog 60 49 4:=⟨Tryz.underlying60,bG (by kernel_rfl)⟩
theorem en_77:aJ Tryz.prog 77:=⟨_,Tryz.func77,by decide,rfl⟩
abbrev kP:Nat:=69
theorem fld_139_1:Fld Tryz.prog 139 1 1:=bX (m:=1) Tryz.underlying139 rfl rfl (by kernel_rfl) (by decide)
abbrev kR:Nat:=103
def gI (r:Int):Value:=(.int .u64 r)
theorem fld_139_0:Fld Tryz.prog 139 0 0:=bX (m:=1) Tryz.underlying139 rfl rfl (by kernel_rfl) (by decide)
theorem sc_41:Sc Tryz.prog 41:=⟨⟨_,Tryz.underlying41,rfl⟩,bG (by kernel_rfl)⟩
abbrev fQ:Nat:=104
theorem en_104:aJ Tryz.prog 104:=⟨_,Tryz.func104,by decide,rfl⟩
theorem inf_41:∃ i,Tryz.prog.info? 41 = some i∧i.size = 1:=bG (by kernel_rfl)
theorem en_103:aJ Tryz.prog 103:=⟨_,Tryz.func103,by decide,rfl⟩
abbrev iR:Nat:=70
theorem lX:Fld Tryz.prog 137 0 0:=bX (m:=1) Tryz.underlying137 rfl rfl (by kernel_rfl) (by decide)
abbrev lu:Nat:=123
abbrev sZ:Nat:=200
theorem en_200:aJ Tryz.prog 200:=⟨_,Tryz.func200,by decide,rfl⟩
abbrev uo:Nat:=178
abbrev pC:Nat:=179
theorem en_178:aJ Tryz.prog 178:=⟨_,Tryz.func178,by decide,rfl⟩
theorem en_179:aJ Tryz.prog 179:=⟨_,Tryz.func179,by decide,rfl⟩
abbrev eH:Nat:=152
abbrev rT:Nat:=181
abbrev kL:Nat:=3
abbrev uJ:Nat:=180
theorem en_181:aJ Tryz.prog 181:=⟨_,Tryz.func181,by decide,rfl⟩
abbrev dA:Nat:=153
theorem inf_80:∃ i,Tryz.prog.info? 80 = some i∧i.size = 1:=bG (by kernel_rfl)
theorem en_153:aJ Tryz.prog 153:=⟨_,Tryz.func153,by decide,rfl⟩
theorem en_152:aJ Tryz.prog 152:=⟨_,Tryz.func152,by decide,rfl⟩
theorem en_123:aJ Tryz.prog 123:=⟨_,Tryz.func123,by decide,rfl⟩
abbrev pS:Nat:=105
theorem en_105:aJ Tryz.prog 105:=⟨_,Tryz.func105,by decide,rfl⟩
abbrev mW:Nat:=71
abbrev iQ:Nat:=106
theorem en_106:aJ Tryz.prog 106:=⟨_,Tryz.func106,by decide,rfl⟩
abbrev jm:Nat:=72
abbrev n_plain_fails:Nat:=108
theorem build_70_0_1_2 (y0:Int) (y1:Int) (y2:Int):∀ w,(Instr.build 70 #[(0,(.int .i64 y0)),(1,(.int .i64 y1)),(2,(.int .i64 y2))]).run Tryz.prog w = .ok (.agg (aA.C (⟨y0,y1,y2,0⟩:aA)).toArray) w:=fun _=>by kernel_rfl
abbrev jy:Nat:=126
abbrev jV:Nat:=182
theorem nN:Fld Tryz.prog 183 0 0:=bX (m:=1) Tryz.underlying183 rfl rfl (by kernel_rfl) (by decide)
theorem en_182:aJ Tryz.prog 182:=⟨_,Tryz.func182,by decide,rfl⟩
abbrev ju:Nat:=154
abbrev t_none:Nat:=0
abbrev sW:Nat:=155
theorem nO:Fld Tryz.prog 132 3 5:=bX (m:=1) Tryz.underlying132 rfl rfl (by kernel_rfl) (by decide)
theorem en_126:aJ Tryz.prog 126:=⟨_,Tryz.func126,by decide,rfl⟩
theorem en_155:aJ Tryz.prog 155:=⟨_,Tryz.func155,by decide,rfl⟩
theorem en_154:aJ Tryz.prog 154:=⟨_,Tryz.func154,by decide,rfl⟩
theorem sc_126:Sc Tryz.prog 126:=⟨⟨_,Tryz.underlying126,rfl⟩,bG (by kernel_rfl)⟩
abbrev lj:Nat:=109
theorem te:Fld Tryz.prog 70 0 0:=bX (m:=1) Tryz.underlying70 rfl rfl (by kernel_rfl) (by decide)
theorem build_70_0_1_2_3 (y0:Int) (y1:Int) (y2:Int) (y3:Int):∀ w,(Instr.build 70 #[(0,(.int .i64 y0)),(1,(.int .i64 y1)),(2,(.int .i64 y2)),(3,(.int .i64 y3))]).run Tryz.prog w = .ok (.agg (aA.C (⟨y0,y1,y2,y3⟩:aA)).toArray) w:=fun _=>by kernel_rfl
abbrev ig:Nat:=127
abbrev jv:Nat:=183
theorem en_183:aJ Tryz.prog 183:=⟨_,Tryz.func183,by decide,rfl⟩
abbrev lM:Nat:=156
def cR (r:Sl):Value:=(sv r)
abbrev kW:Nat:=210
def R_api_Cap (r:aA):Value:=(.agg (aA.C r).toArray)
theorem uP (y0:Int) (y1:Int):∀ w,(Instr.build 208 #[(0,(.int .i64 y0)),(1,(.int .i64 y1))]).run Tryz.prog w = .ok (.agg (aE.C (⟨y0,y1⟩:aE)).toArray) w:=fun _=>by kernel_rfl
theorem zero_208:∃ i,Tryz.prog.info? 208 = some i∧i.zero = some (.agg (aE.C (⟨0,0⟩:aE)).toArray):=jP (by kernel_rfl)
theorem ag_208:Ag Tryz.prog 208 2:=⟨⟨_,Tryz.underlying208,rfl⟩,bG (by kernel_rfl)⟩
abbrev gR:Nat:=173
theorem inf_208:∃ i,Tryz.prog.info? 208 = some i∧i.size = 2:=bG (by kernel_rfl)
abbrev kl:Nat:=170
abbrev lV:Nat:=184
theorem slc_173:Slc Tryz.prog 173 208 2:=⟨Tryz.underlying173,bG (by kernel_rfl)⟩
theorem fld_208_0:Fld Tryz.prog 208 0 0:=bX (m:=1) Tryz.underlying208 rfl rfl (by kernel_rfl) (by decide)
theorem fld_208_1:Fld Tryz.prog 208 1 1:=bX (m:=1) Tryz.underlying208 rfl rfl (by kernel_rfl) (by decide)
abbrev gE:Nat:=185
abbrev kS:Nat:=172
def aE.eqb (x y:aE):Bool:=((x.fEnv == y.fEnv) && ((x.fSlot == y.fSlot) && true))
theorem eqr_208 (n:Nat) (x y:aE):EqR Tryz.prog (n + 2) 208 (.agg (aE.C x).toArray) (.agg (aE.C y).toArray) (aE.eqb x y):=xp Tryz.underlying208 (by kernel_rfl) (lA (by decide) (gT aY rfl) (gT aY rfl) (jn (n:=n + 0) Tryz.underlying3) (lA (by decide) (gT aY rfl) (gT aY rfl) (jn (n:=n + 0) Tryz.underlying3) eqf_nil))
theorem eqg_208:Tryz.prog.eqGuardType Tryz.prog.depth 208 = false:=by kernel_rfl
theorem en_172:aJ Tryz.prog 172:=⟨_,Tryz.func172,by decide,rfl⟩
abbrev gF:Nat:=186
def dv (r:Sl × Int):Value:=.tuple #[(sv r.1),(.int .i64 r.2)]
theorem en_185:aJ Tryz.prog 185:=⟨_,Tryz.func185,by decide,rfl⟩
theorem en_170:aJ Tryz.prog 170:=⟨_,Tryz.func170,by decide,rfl⟩
abbrev rI:Nat:=208
theorem en_184:aJ Tryz.prog 184:=⟨_,Tryz.func184,by decide,rfl⟩
abbrev rK:Nat:=128
abbrev lW:Nat:=157
theorem en_157:aJ Tryz.prog 157:=⟨_,Tryz.func157,by decide,rfl⟩
theorem en_156:aJ Tryz.prog 156:=⟨_,Tryz.func156,by decide,rfl⟩
theorem en_127:aJ Tryz.prog 127:=⟨_,Tryz.func127,by decide,rfl⟩
abbrev ip:Nat:=110
def jp (r:am × Int):Value:=.tuple #[(.agg (am.C r.1).toArray),(.int .i64 r.2)]
abbrev iP:Nat:=113
abbrev lx:Nat:=171
abbrev kT:Nat:=131
theorem en_131:aJ Tryz.prog 131:=⟨_,Tryz.func131,by decide,rfl⟩
abbrev nk:Nat:=158
abbrev tH:Nat:=187
abbrev lL:Nat:=159
abbrev mV:Nat:=160
def fy (r:ab):Value:=(.agg (ab.C r).toArray)
theorem en_113:aJ Tryz.prog 113:=⟨_,Tryz.func113,by decide,rfl⟩
theorem en_160:aJ Tryz.prog 160:=⟨_,Tryz.func160,by decide,rfl⟩
theorem en_159:aJ Tryz.prog 159:=⟨_,Tryz.func159,by decide,rfl⟩
theorem en_158:aJ Tryz.prog 158:=⟨_,Tryz.func158,by decide,rfl⟩
abbrev kA:Nat:=111
theorem oS (y0:Int) (y1:Int) (y2:Int):∀ w,(Instr.build 74 #[(0,(.int .i64 y0)),(1,(.int .i64 y1)),(2,(.int .i64 y2))]).run Tryz.prog w = .ok (.agg (am.C (⟨y0,y1,y2⟩:am)).toArray) w:=fun _=>by kernel_rfl
abbrev ms:Nat:=112
abbrev kz:Nat:=161
theorem en_161:aJ Tryz.prog 161:=⟨_,Tryz.func161,by decide,rfl⟩
abbrev jW:Nat:=114
abbrev n_pred_Holds:Nat:=132
theorem rh:aJ Tryz.prog 108:=⟨_,Tryz.func108,by decide,rfl⟩
theorem en_132:aJ Tryz.prog 132:=⟨_,Tryz.func132,by decide,rfl⟩
abbrev li:Nat:=115
abbrev mo:Nat:=116
theorem en_111:aJ Tryz.prog 111:=⟨_,Tryz.func111,by decide,rfl⟩
theorem en_109:aJ Tryz.prog 109:=⟨_,Tryz.func109,by decide,rfl⟩
theorem en_110:aJ Tryz.prog 110:=⟨_,Tryz.func110,by decide,rfl⟩
theorem en_112:aJ Tryz.prog 112:=⟨_,Tryz.func112,by decide,rfl⟩
theorem en_114:aJ Tryz.prog 114:=⟨_,Tryz.func114,by decide,rfl⟩
theorem en_115:aJ Tryz.prog 115:=⟨_,Tryz.func115,by decide,rfl⟩
theorem en_116:aJ Tryz.prog 116:=⟨_,Tryz.func116,by decide,rfl⟩
abbrev dx:Nat:=73
theorem en_67:aJ Tryz.prog 67:=⟨_,Tryz.func67,by decide,rfl⟩
theorem en_66:aJ Tryz.prog 66:=⟨_,Tryz.func66,by decide,rfl⟩
theorem fld_102_4:Fld Tryz.prog 102 4 4:=bX (m:=1) Tryz.underlying102 rfl rfl (by kernel_rfl) (by decide)
theorem fld_108_4:Fld Tryz.prog 108 4 8:=bX (m:=1) Tryz.underlying108 rfl rfl (by kernel_rfl) (by decide)
theorem fld_102_3:Fld Tryz.prog 102 3 3:=bX (m:=1) Tryz.underlying102 rfl rfl (by kernel_rfl) (by decide)
theorem en_71:aJ Tryz.prog 71:=⟨_,Tryz.func71,by decide,rfl⟩
theorem sc_95:Sc Tryz.prog 95:=⟨⟨_,Tryz.underlying95,rfl⟩,bG (by kernel_rfl)⟩
theorem en_70:aJ Tryz.prog 70:=⟨_,Tryz.func70,by decide,rfl⟩
theorem sc_97:Sc Tryz.prog 97:=⟨⟨_,Tryz.underlying97,rfl⟩,bG (by kernel_rfl)⟩
theorem en_69:aJ Tryz.prog 69:=⟨_,Tryz.func69,by decide,rfl⟩
theorem inf_4:∃ i,Tryz.prog.info? 4 = some i∧i.size = 1:=bG (by kernel_rfl)
theorem en_73:aJ Tryz.prog 73:=⟨_,Tryz.func73,by decide,rfl⟩
theorem en_72:aJ Tryz.prog 72:=⟨_,Tryz.func72,by decide,rfl⟩
theorem en_68:aJ Tryz.prog 68:=⟨_,Tryz.func68,by decide,rfl⟩
abbrev lT:Nat:=30
abbrev kO:Nat:=83
theorem en_83:aJ Tryz.prog 83:=⟨_,Tryz.func83,by decide,rfl⟩
abbrev lP:Nat:=75
abbrev jY:Nat:=76
theorem en_76:aJ Tryz.prog 76:=⟨_,Tryz.func76,by decide,rfl⟩
theorem en_75:aJ Tryz.prog 75:=⟨_,Tryz.func75,by decide,rfl⟩
abbrev pU:Nat:=31
abbrev pV:Nat:=45
theorem en_30:aJ Tryz.prog 30:=⟨_,Tryz.func30,by decide,rfl⟩
theorem en_31:aJ Tryz.prog 31:=⟨_,Tryz.func31,by decide,rfl⟩
theorem en_45:aJ Tryz.prog 45:=⟨_,Tryz.func45,by decide,rfl⟩
abbrev fu:Nat:=39
theorem en_37:aJ Tryz.prog 37:=⟨_,Tryz.func37,by decide,rfl⟩
theorem en_39:aJ Tryz.prog 39:=⟨_,Tryz.func39,by decide,rfl⟩
theorem en_33:aJ Tryz.prog 33:=⟨_,Tryz.func33,by decide,rfl⟩
abbrev dK:Nat:=38
theorem mN:Fld Tryz.prog 51 2 2:=bX (m:=5) Tryz.underlying51 rfl rfl (by kernel_rfl) (by decide)
abbrev n_judge_user:Nat:=120
abbrev sY:Nat:=54
abbrev n_hist_Over:Nat:=21
abbrev gx:Nat:=166
theorem en_166:aJ Tryz.prog 166:=⟨_,Tryz.func166,by decide,rfl⟩
abbrev rb:Nat:=124
abbrev mq:Nat:=187
theorem en_124:aJ Tryz.prog 124:=⟨_,Tryz.func124,by decide,rfl⟩
theorem en_187:aJ Tryz.prog 187:=⟨_,Tryz.func187,by decide,rfl⟩
abbrev gD:Nat:=164
def qe (r:Sl):Value:=(sv r)
theorem vD:Fld Tryz.prog 168 2 4:=bX (m:=1) Tryz.underlying168 rfl rfl (by kernel_rfl) (by decide)
abbrev pM:Nat:=211
theorem fld_168_0:Fld Tryz.prog 168 0 0:=bX (m:=1) Tryz.underlying168 rfl rfl (by kernel_rfl) (by decide)
theorem en_164:aJ Tryz.prog 164:=⟨_,Tryz.func164,by decide,rfl⟩
theorem en_21:aJ Tryz.prog 21:=⟨_,Tryz.func21,by decide,rfl⟩
abbrev lv:Nat:=163
theorem fld_168_1:Fld Tryz.prog 168 1 1:=bX (m:=3) Tryz.underlying168 rfl rfl (by kernel_rfl) (by decide)
def ab.eqb (x y:ab):Bool:=((x.fErr == y.fErr) && ((x.fVal == y.fVal) && true))
theorem nE:Sc Tryz.prog 45:=⟨⟨_,Tryz.underlying45,rfl⟩,bG (by kernel_rfl)⟩
theorem eqr_47 (n:Nat) (x y:ab):EqR Tryz.prog (n + 2) 47 (.agg (ab.C x).toArray) (.agg (ab.C y).toArray) (ab.eqb x y):=xp Tryz.underlying47 (by kernel_rfl) (lA (by decide) (gT nE rfl) (gT nE rfl) (jn (n:=n + 0) Tryz.underlying45) (lA (by decide) (gT cu rfl) (gT cu rfl) (jn (n:=n + 0) Tryz.underlying25) eqf_nil))
theorem eqg_47:Tryz.prog.eqGuardType Tryz.prog.depth 47 = false:=by kernel_rfl
def al.eqb (x y:al):Bool:=((x.fEnv == y.fEnv) && ((x.fPage == y.fPage) && ((x.fFrame == y.fFrame) && ((x.fRights == y.fRights) && true))))
theorem eqr_49 (n:Nat) (x y:al):EqR Tryz.prog (n + 2) 49 (.agg (al.C x).toArray) (.agg (al.C y).toArray) (al.eqb x y):=xp Tryz.underlying49 (by kernel_rfl) (lA (by decide) (gT aY rfl) (gT aY rfl) (jn (n:=n + 0) Tryz.underlying3) (lA (by decide) (gT aY rfl) (gT aY rfl) (jn (n:=n + 0) Tryz.underlying3) (lA (by decide) (gT aY rfl) (gT aY rfl) (jn (n:=n + 0) Tryz.underlying3) (lA (by decide) (gT aY rfl) (gT aY rfl) (jn (n:=n + 0) Tryz.underlying3) eqf_nil))))
theorem eqg_49:Tryz.prog.eqGuardType Tryz.prog.depth 49 = false:=by kernel_rfl
theorem slc_211:Slc Tryz.prog 211 74 3:=⟨Tryz.underlying211,bG (by kernel_rfl)⟩
theorem jB:Fld Tryz.prog 47 0 0:=bX (m:=1) Tryz.underlying47 rfl rfl (by kernel_rfl) (by decide)
theorem fld_47_1:Fld Tryz.prog 47 1 1:=bX (m:=1) Tryz.underlying47 rfl rfl (by kernel_rfl) (by decide)
theorem en_163:aJ Tryz.prog 163:=⟨_,Tryz.func163,by decide,rfl⟩
abbrev lw:Nat:=121
abbrev nj:Nat:=122
theorem build_168_0_1_2 (y0:Sl) (y1:aC) (y2:Ptr):∀ w,(Instr.build 168 #[(0,(sv y0)),(1,(.agg (aC.C y1).toArray)),(2,(pv y2))]).run Tryz.prog w = .ok (.agg (ky.C (⟨y0,y1,y2⟩:ky)).toArray) w:=fun _=>by kernel_rfl
theorem en_122:aJ Tryz.prog 122:=⟨_,Tryz.func122,by decide,rfl⟩
theorem en_121:aJ Tryz.prog 121:=⟨_,Tryz.func121,by decide,rfl⟩
theorem en_120:aJ Tryz.prog 120:=⟨_,Tryz.func120,by decide,rfl⟩
theorem en_26:aJ Tryz.prog 26:=⟨_,Tryz.func26,by decide,rfl⟩
abbrev di:Nat:=168
theorem en_19:aJ Tryz.prog 19:=⟨_,Tryz.func19,by decide,rfl⟩
abbrev uk:Nat:=82
theorem en_82:aJ Tryz.prog 82:=⟨_,Tryz.func82,by decide,rfl⟩
abbrev oH:Nat:=44
abbrev oI:Nat:=49
theorem en_49:aJ Tryz.prog 49:=⟨_,Tryz.func49,by decide,rfl⟩
theorem en_44:aJ Tryz.prog 44:=⟨_,Tryz.func44,by decide,rfl⟩
abbrev qh:Nat:=41
abbrev lN:Nat:=125
theorem en_125:aJ Tryz.prog 125:=⟨_,Tryz.func125,by decide,rfl⟩
abbrev mt:Nat:=85
abbrev wS:Nat:=167
theorem en_167:aJ Tryz.prog 167:=⟨_,Tryz.func167,by decide,rfl⟩
abbrev n_user_Do:Nat:=128
def iq (r:Value):Value:=(r)
theorem build_228_0_1 (y0:Int) (y1:Int):∀ w,(Instr.build 228 #[(0,(.int .i64 y0)),(1,(.int .i64 y1))]).run Tryz.prog w = .ok (.agg (bW.C (⟨y0,y1,(⟨0,0,0,0,0⟩:ae),Value.nilIface⟩:bW)).toArray) w:=fun _=>by kernel_rfl
abbrev be:Nat:=226
abbrev nu:Nat:=228
abbrev ku:Nat:=134
abbrev fZ:Nat:=173
theorem ag_269:Ag Tryz.prog 269 3:=⟨⟨_,Tryz.underlying269,rfl⟩,bG (by kernel_rfl)⟩
abbrev ff:Nat:=213
def fA (r:aH):Value:=(.agg (aH.C r).toArray)
abbrev cT:Nat:=209
abbrev fw:Nat:=214
abbrev gl:Nat:=171
abbrev je:Nat:=250
def gg (r:Value × Bool):Value:=.tuple #[(r.1),(.bool r.2)]
abbrev iu:Nat:=252
def fT (r:Value × Bool):Value:=.tuple #[(r.1),(.bool r.2)]
def R_Serror (r:Sl):Value:=(sv r)
theorem slc_253:Slc Tryz.prog 253 171 1:=⟨Tryz.underlying253,bG (by kernel_rfl)⟩
abbrev ul:Nat:=212
theorem en_212:aJ Tryz.prog 212:=⟨_,Tryz.func212,by decide,rfl⟩
theorem sc_171:Sc Tryz.prog 171:=⟨⟨_,Tryz.underlying171,rfl⟩,bG (by kernel_rfl)⟩
abbrev qu:Nat:=278
def ns (r:Value × Bool):Value:=.tuple #[(r.1),(.bool r.2)]
theorem zero_269:∃ i,Tryz.prog.info? 269 = some i∧i.zero = some (.agg (aH.C (⟨none,none,0⟩:aH)).toArray):=jP (by kernel_rfl)
abbrev ir:Nat:=210
def R_abi_Kind (r:Int):Value:=(.int .u8 r)
def str_6ae768b9:ByteArray:=⟨#[101,114,114,111,114,115,58,32,42,116,97,114,103,101,116,32,109,117,115,116,32,98,101,32,105,110,116,101,114,102,97,99,101,32,111,114,32,105,109,112,108,101,109,101,110,116,32,101,114,114,111,114]⟩
abbrev uQ:Nat:=9
theorem sc_223:Sc Tryz.prog 223:=⟨⟨_,Tryz.underlying223,rfl⟩,bG (by kernel_rfl)⟩
abbrev eQ:Nat:=211
def str_ae9b7a08:ByteArray:=⟨#[101,114,114,111,114,115,58,32,116,97,114,103,101,116,32,109,117,115,116,32,98,101,32,97,32,110,111,110,45,110,105,108,32,112,111,105,110,116,101,114]⟩
theorem inf_269:∃ i,Tryz.prog.info? 269 = some i∧i.size = 3:=bG (by kernel_rfl)
def str_53947bae:ByteArray:=⟨#[101,114,114,111,114,115,58,32,116,97,114,103,101,116,32,99,97,110,110,111,116,32,98,101,32,110,105,108]⟩
abbrev um:Nat:=207
def eE (r:Ptr × Bool):Value:=.tuple #[(pv r.1),(.bool r.2)]
theorem zero_226:∃ i,Tryz.prog.info? 226 = some i∧i.zero = some (pv none):=jP (by kernel_rfl)
theorem sc_226:Sc Tryz.prog 226:=⟨⟨_,Tryz.underlying226,rfl⟩,bG (by kernel_rfl)⟩
abbrev bA:Nat:=263
theorem en_207:aJ Tryz.prog 207:=⟨_,Tryz.func207,by decide,rfl⟩
abbrev jT:Nat:=202
theorem vC:Fld Tryz.prog 228 0 0:=bX (m:=1) Tryz.underlying228 rfl rfl (by kernel_rfl) (by decide)
theorem en_202:aJ Tryz.prog 202:=⟨_,Tryz.func202,by decide,rfl⟩
abbrev uj:Nat:=189
def R_trap_Trap (r:bW):Value:=(.agg (bW.C r).toArray)
theorem en_189:aJ Tryz.prog 189:=⟨_,Tryz.func189,by decide,rfl⟩
abbrev n_trap_In:Nat:=168
theorem xq:aJ Tryz.prog 134:=⟨_,Tryz.func134,by decide,rfl⟩
theorem en_168:aJ Tryz.prog 168:=⟨_,Tryz.func168,by decide,rfl⟩
abbrev nh:Nat:=129
def oV (r:Ptr):Value:=(pv r)
theorem build_258_0 (y0:Int):∀ w,(Instr.build 258 #[(0,(.int .u64 y0))]).run Tryz.prog w = .ok (.agg (nS.C (⟨y0,0⟩:nS)).toArray) w:=fun _=>by kernel_rfl
abbrev qv:Nat:=258
abbrev ta:Nat:=190
def tw (r:Ptr):Value:=(pv r)
theorem build_260_0_1 (y0:Ptr) (y1:Ptr):∀ w,(Instr.build 260 #[(0,(pv y0)),(1,(pv y1))]).run Tryz.prog w = .ok (.agg (kx.C (⟨y0,y1⟩:kx)).toArray) w:=fun _=>by kernel_rfl
abbrev mG:Nat:=260
theorem en_190:aJ Tryz.prog 190:=⟨_,Tryz.func190,by decide,rfl⟩
abbrev wU:Nat:=191
theorem so:Fld Tryz.prog 258 1 1:=bX (m:=1) Tryz.underlying258 rfl rfl (by kernel_rfl) (by decide)
theorem nM:Fld Tryz.prog 258 0 0:=bX (m:=1) Tryz.underlying258 rfl rfl (by kernel_rfl) (by decide)
abbrev oL:Nat:=192
theorem fld_260_0:Fld Tryz.prog 260 0 0:=bX (m:=1) Tryz.underlying260 rfl rfl (by kernel_rfl) (by decide)
theorem en_192:aJ Tryz.prog 192:=⟨_,Tryz.func192,by decide,rfl⟩
theorem sc_239:Sc Tryz.prog 239:=⟨⟨_,Tryz.underlying239,rfl⟩,bG (by kernel_rfl)⟩
abbrev ng:Nat:=193
abbrev nG:Nat:=174
theorem en_174:aJ Tryz.prog 174:=⟨_,Tryz.func174,by decide,rfl⟩
abbrev mc:Nat:=247
def jG (r:Value × Bool):Value:=.tuple #[(r.1),(.bool r.2)]
abbrev nH:Nat:=133
theorem fld_228_3:Fld Tryz.prog 228 3 7:=bX (m:=1) Tryz.underlying228 rfl rfl (by kernel_rfl) (by decide)
abbrev wT:Nat:=208
theorem iZ (y0:Int) (y1:Int):∀ w,(Instr.build 27 #[(0,(.int .u64 y0)),(1,(.int .u64 y1))]).run Tryz.prog w = .ok (.agg (ae.C (⟨y0,y1,0,0,0⟩:ae)).toArray) w:=fun _=>by kernel_rfl
theorem fld_228_1:Fld Tryz.prog 228 1 1:=bX (m:=1) Tryz.underlying228 rfl rfl (by kernel_rfl) (by decide)
theorem fld_228_2:Fld Tryz.prog 228 2 2:=bX (m:=5) Tryz.underlying228 rfl rfl (by kernel_rfl) (by decide)
def ae.eqb (x y:ae):Bool:=((x.e0 == y.e0) && ((x.e1 == y.e1) && ((x.e2 == y.e2) && ((x.e3 == y.e3) && ((x.e4 == y.e4) && true)))))
theorem eqr_27 (n:Nat) (x y:ae):EqR Tryz.prog (n + 2) 27 (.agg (ae.C x).toArray) (.agg (ae.C y).toArray) (ae.eqb x y):=eqr_arr Tryz.underlying27 inf_25 ⟨_,_,_,_,(gT cu rfl),(gT cu rfl),(jn (n:=n + 0) Tryz.underlying25),⟨_,_,_,_,(gT cu rfl),(gT cu rfl),(jn (n:=n + 0) Tryz.underlying25),⟨_,_,_,_,(gT cu rfl),(gT cu rfl),(jn (n:=n + 0) Tryz.underlying25),⟨_,_,_,_,(gT cu rfl),(gT cu rfl),(jn (n:=n + 0) Tryz.underlying25),⟨_,_,_,_,(gT cu rfl),(gT cu rfl),(jn (n:=n + 0) Tryz.underlying25),rfl,rfl⟩,rfl⟩,rfl⟩,rfl⟩,rfl⟩
theorem eqg_27:Tryz.prog.eqGuardType Tryz.prog.depth 27 = false:=by kernel_rfl
def dP (r:ByteArray):Value:=(.string r)
def nZ:ByteArray:=⟨#[116,114,97,112,32,51,58,32,116,114,97,112,32,51]⟩
theorem en_133:aJ Tryz.prog 133:=⟨_,Tryz.func133,by decide,rfl⟩
theorem en_208:aJ Tryz.prog 208:=⟨_,Tryz.func208,by decide,rfl⟩
abbrev lp:Nat:=203
theorem en_203:aJ Tryz.prog 203:=⟨_,Tryz.func203,by decide,rfl⟩
abbrev lq:Nat:=194
abbrev lU:Nat:=204
theorem fld_260_1:Fld Tryz.prog 260 1 1:=bX (m:=1) Tryz.underlying260 rfl rfl (by kernel_rfl) (by decide)
theorem en_204:aJ Tryz.prog 204:=⟨_,Tryz.func204,by decide,rfl⟩
abbrev jU:Nat:=195
abbrev re:Nat:=205
theorem en_205:aJ Tryz.prog 205:=⟨_,Tryz.func205,by decide,rfl⟩
theorem en_195:aJ Tryz.prog 195:=⟨_,Tryz.func195,by decide,rfl⟩
abbrev ne:Nat:=196
abbrev n_word_Args:Nat:=197
abbrev pR:Nat:=198
theorem build_27_0 (y0:Int):∀ w,(Instr.build 27 #[(0,(.int .u64 y0))]).run Tryz.prog w = .ok (.agg (ae.C (⟨y0,0,0,0,0⟩:ae)).toArray) w:=fun _=>by kernel_rfl
theorem gZ (y0:Int) (y1:Int) (y2:Int) (y3:Int):∀ w,(Instr.build 27 #[(0,(.int .u64 y0)),(1,(.int .u64 y1)),(2,(.int .u64 y2)),(3,(.int .u64 y3))]).run Tryz.prog w = .ok (.agg (ae.C (⟨y0,y1,y2,y3,0⟩:ae)).toArray) w:=fun _=>by kernel_rfl
theorem en_198:aJ Tryz.prog 198:=⟨_,Tryz.func198,by decide,rfl⟩
theorem en_197:aJ Tryz.prog 197:=⟨_,Tryz.func197,by decide,rfl⟩
theorem en_196:aJ Tryz.prog 196:=⟨_,Tryz.func196,by decide,rfl⟩
theorem en_194:aJ Tryz.prog 194:=⟨_,Tryz.func194,by decide,rfl⟩
theorem en_193:aJ Tryz.prog 193:=⟨_,Tryz.func193,by decide,rfl⟩
theorem en_191:aJ Tryz.prog 191:=⟨_,Tryz.func191,by decide,rfl⟩
abbrev ll:Nat:=169
theorem en_169:aJ Tryz.prog 169:=⟨_,Tryz.func169,by decide,rfl⟩
abbrev lm:Nat:=130
theorem tt (y0:Int) (y1:Int) (y2:Int):∀ w,(Instr.build 35 #[(0,(.int .i64 y0)),(1,(.int .i64 y1)),(2,(.int .i64 y2))]).run Tryz.prog w = .ok (.agg (aC.C (⟨y0,y1,y2⟩:aC)).toArray) w:=fun _=>by kernel_rfl
theorem tu (y0:Int) (y1:Int) (y2:Int):∀ w,(Instr.build 27 #[(0,(.int .u64 y0)),(1,(.int .u64 y1)),(2,(.int .u64 y2))]).run Tryz.prog w = .ok (.agg (ae.C (⟨y0,y1,y2,0,0⟩:ae)).toArray) w:=fun _=>by kernel_rfl
theorem en_85:aJ Tryz.prog 85:=⟨_,Tryz.func85,by decide,rfl⟩
theorem en_130:aJ Tryz.prog 130:=⟨_,Tryz.func130,by decide,rfl⟩
theorem en_129:aJ Tryz.prog 129:=⟨_,Tryz.func129,by decide,rfl⟩
theorem en_128:aJ Tryz.prog 128:=⟨_,Tryz.func128,by decide,rfl⟩
abbrev kC:Nat:=87
theorem en_87:aJ Tryz.prog 87:=⟨_,Tryz.func87,by decide,rfl⟩
abbrev kD:Nat:=50
def mR (r:Sl):Value:=(sv r)
abbrev mH:Nat:=84
abbrev n_twin_View:Nat:=51
theorem zero_35:∃ i,Tryz.prog.info? 35 = some i∧i.zero = some (.agg (aC.C (⟨0,0,0⟩:aC)).toArray):=jP (by kernel_rfl)
theorem en_41:aJ Tryz.prog 41:=⟨_,Tryz.func41,by decide,rfl⟩
theorem en_51:aJ Tryz.prog 51:=⟨_,Tryz.func51,by decide,rfl⟩
theorem en_12:aJ Tryz.prog 12:=⟨_,Tryz.func12,by decide,rfl⟩
theorem en_50:aJ Tryz.prog 50:=⟨_,Tryz.func50,by decide,rfl⟩
theorem en_11:aJ Tryz.prog 11:=⟨_,Tryz.func11,by decide,rfl⟩
theorem en_38:aJ Tryz.prog 38:=⟨_,Tryz.func38,by decide,rfl⟩
theorem en_28:aJ Tryz.prog 28:=⟨_,Tryz.func28,by decide,rfl⟩
theorem inf_35:∃ i,Tryz.prog.info? 35 = some i∧i.size = 3:=bG (by kernel_rfl)
abbrev kB:Nat:=10
def du.eqb (x y:du):Bool:=((x.fKind == y.fKind) && ((x.fCore == y.fCore) && ((x.fEnv == y.fEnv) && ((ae.eqb x.fCall y.fCall) && ((x.fSet == y.fSet) && ((x.fWay == y.fWay) && true))))))
theorem en_10:aJ Tryz.prog 10:=⟨_,Tryz.func10,by decide,rfl⟩
def R_api_Event (r:au):Value:=(.agg (au.C r).toArray)
abbrev lr:Nat:=40
theorem zero_27:∃ i,Tryz.prog.info? 27 = some i∧i.zero = some (.agg (ae.C (⟨0,0,0,0,0⟩:ae)).toArray):=jP (by kernel_rfl)
abbrev qw:Nat:=51
abbrev rJ:Nat:=47
theorem en_40:aJ Tryz.prog 40:=⟨_,Tryz.func40,by decide,rfl⟩
theorem inf_27:∃ i,Tryz.prog.info? 27 = some i∧i.size = 5:=bG (by kernel_rfl)
abbrev mM:Nat:=8
def str_73df774b:ByteArray:=⟨#[48,49,50,51,52,53,54,55,56,57,97,98,99,100,101,102,103,104,105,106,107,108,109,110,111,112,113,114,115,116,117,118,119,120,121,122]⟩
def str_e9752c08:ByteArray:=⟨#[48,48,48,49,48,50,48,51,48,52,48,53,48,54,48,55,48,56,48,57,49,48,49,49,49,50,49,51,49,52,49,53,49,54,49,55,49,56,49,57,50,48,50,49,50,50,50,51,50,52,50,53,50,54,50,55,50,56,50,57,51,48,51,49,51,50,51,51,51,52,51,53,51,54,51,55,51,56,51,57,52,48,52,49,52,50,52,51,52,52,52,53,52,54,52,55,52,56,52,57,53,48,53,49,53,50,53,51,53,52,53,53,53,54,53,55,53,56,53,57,54,48,54,49,54,50,54,51,54,52,54,53,54,54,54,55,54,56,54,57,55,48,55,49,55,50,55,51,55,52,55,53,55,54,55,55,55,56,55,57,56,48,56,49,56,50,56,51,56,52,56,53,56,54,56,55,56,56,56,57,57,48,57,49,57,50,57,51,57,52,57,53,57,54,57,55,57,56,57,57]⟩
abbrev jg:Nat:=239
abbrev rc:Nat:=240
theorem inf_5:∃ i,Tryz.prog.info? 5 = some i∧i.size = 1:=bG (by kernel_rfl)
abbrev oZ:Nat:=241
def R_Suint8_string (r:Sl × ByteArray):Value:=.tuple #[(sv r.1),(.string r.2)]
def R_Suint8 (r:Sl):Value:=(sv r)
abbrev qK:Nat:=242
theorem en_239:aJ Tryz.prog 239:=⟨_,Tryz.func239,by decide,rfl⟩
theorem zero_300:∃ i,Tryz.prog.info? 300 = some i∧i.zero = some (.agg [.int .u8 0,.int .u8 0,.int .u8 0,.int .u8 0,.int .u8 0,.int .u8 0,.int .u8 0,.int .u8 0,.int .u8 0,.int .u8 0,.int .u8 0,.int .u8 0,.int .u8 0,.int .u8 0,.int .u8 0,.int .u8 0,.int .u8 0,.int .u8 0,.int .u8 0,.int .u8 0,.int .u8 0,.int .u8 0,.int .u8 0,.int .u8 0].toArray):=jP (by kernel_rfl)
abbrev wd:Nat:=300
theorem arr_300:Arr Tryz.prog 300 24 5 1:=⟨Tryz.underlying300,bG (by kernel_rfl)⟩
theorem en_241:aJ Tryz.prog 241:=⟨_,Tryz.func241,by decide,rfl⟩
theorem en_240:aJ Tryz.prog 240:=⟨_,Tryz.func240,by decide,rfl⟩
theorem en_242:aJ Tryz.prog 242:=⟨_,Tryz.func242,by decide,rfl⟩
abbrev gy:Nat:=238
theorem en_238:aJ Tryz.prog 238:=⟨_,Tryz.func238,by decide,rfl⟩
abbrev jx:Nat:=237
theorem en_237:aJ Tryz.prog 237:=⟨_,Tryz.func237,by decide,rfl⟩
abbrev sV:Nat:=236
theorem en_236:aJ Tryz.prog 236:=⟨_,Tryz.func236,by decide,rfl⟩
abbrev iO:Nat:=233
abbrev sT:Nat:=234
abbrev nc:Nat:=235
abbrev t_api_Pick:Nat:=29
abbrev t_api_Line:Nat:=49
abbrev t_uint64:Nat:=25
abbrev ft:Nat:=105
abbrev sA:Nat:=103
abbrev dU:Nat:=133
abbrev t_api_Pte:Nat:=74
abbrev t_bool:Nat:=4
abbrev rl:Nat:=245
abbrev t_tlb_line:Nat:=141
end Go.Proofs.YtniiiakkdoiaiaaGreatDoor
namespace Go.Proofs.YtniiiakkdoiaiaaGreatDoor
open Go Mb
set_option linter.unusedVariables false
theorem el_Sapi_Pick:El Tryz.prog ny t_api_Pick 10 80 [.int .i64 0,.int .i64 0,.int .i64 0,.int .u64 0,.int .u64 0,.int .u64 0,.int .u64 0,.int .u64 0,.int .i64 0,.int .i64 0]:=vN Tryz.underlying23 (by kernel_rfl) rfl
theorem qk:El Tryz.prog eK qw 16 128 [.int .i64 0,.int .i64 0,.int .u64 0,.int .u64 0,.int .u64 0,.int .u64 0,.int .u64 0,.int .i64 0,.int .i64 0,.int .i64 0,.int .i64 0,.int .u64 0,.int .i64 0,.int .i64 0,.int .i64 0,.int .i64 0]:=vN Tryz.underlying39 (by kernel_rfl) rfl
theorem el_Sint:El Tryz.prog dF kL 1 8 [.int .i64 0]:=vN Tryz.underlying41 (by kernel_rfl) rfl
theorem el_Sapi_Line:El Tryz.prog qx t_api_Line 4 32 [.int .i64 0,.int .i64 0,.int .i64 0,.int .i64 0]:=vN Tryz.underlying60 (by kernel_rfl) rfl
theorem fS:El Tryz.prog bd t_uint64 1 8 [.int .u64 0]:=vN Tryz.underlying80 (by kernel_rfl) rfl
theorem el_Sapi_Answer:El Tryz.prog mH rJ 2 16 [.int .i64 0,.int .u64 0]:=vN Tryz.underlying84 (by kernel_rfl) rfl
theorem el_SPkern_call:El Tryz.prog mI ft 1 8 [pv none]:=vN Tryz.underlying99 (by kernel_rfl) rfl
theorem el_SPtlb_Tlb:El Tryz.prog bQ sA 1 8 [pv none]:=vN Tryz.underlying100 (by kernel_rfl) rfl
theorem vO:El Tryz.prog eL dU 1 8 [pv none]:=vN Tryz.underlying130 (by kernel_rfl) rfl
theorem uu:El Tryz.prog pN bd 1 24 [sv (⟨none,0,0,none⟩:Sl)]:=vN Tryz.underlying135 (by kernel_rfl) rfl
theorem tm:El Tryz.prog gR rI 2 16 [.int .i64 0,.int .i64 0]:=vN Tryz.underlying173 (by kernel_rfl) rfl
theorem el_S_8_api_Cap:El Tryz.prog t_S_8_api_Cap kW 32 256 [.int .i64 0,.int .i64 0,.int .i64 0,.int .i64 0,.int .i64 0,.int .i64 0,.int .i64 0,.int .i64 0,.int .i64 0,.int .i64 0,.int .i64 0,.int .i64 0,.int .i64 0,.int .i64 0,.int .i64 0,.int .i64 0,.int .i64 0,.int .i64 0,.int .i64 0,.int .i64 0,.int .i64 0,.int .i64 0,.int .i64 0,.int .i64 0,.int .i64 0,.int .i64 0,.int .i64 0,.int .i64 0,.int .i64 0,.int .i64 0,.int .i64 0,.int .i64 0]:=vN Tryz.underlying184 (by kernel_rfl) rfl
theorem el_Sapi_Pte:El Tryz.prog pM t_api_Pte 3 24 [.int .i64 0,.int .i64 0,.int .i64 0]:=vN Tryz.underlying211 (by kernel_rfl) rfl
theorem enter_hist_Over_c1:aJ Tryz.prog sY:=⟨_,Tryz.func54,by decide,rfl⟩
theorem enter_hist_Order_c1:aJ Tryz.prog mX:=⟨_,Tryz.func56,by decide,rfl⟩
theorem enter_hist_Order_c2:aJ Tryz.prog rd:=⟨_,Tryz.func58,by decide,rfl⟩
theorem uN:aJ Tryz.prog lx:=⟨_,Tryz.func171,by decide,rfl⟩
theorem vM:aJ Tryz.prog gF:=⟨_,Tryz.func186,by decide,rfl⟩
theorem mp_map_int_bool:Mp Tryz.prog jr kL t_bool (.bool false):=⟨Tryz.underlying86,⟨_,Tryz.underlying3⟩,jP (by kernel_rfl)⟩
theorem mp_map_int_int:Mp Tryz.prog gQ kL kL (.int .i64 0):=⟨Tryz.underlying87,⟨_,Tryz.underlying3⟩,jP (by kernel_rfl)⟩
theorem arn_2_tlb_line:Tryz.prog.underlying t_2_tlb_line = some (.array 2 t_tlb_line):=Tryz.underlying142
theorem age_2_tlb_line:Ag Tryz.prog t_tlb_line 5:=⟨⟨_,Tryz.underlying141,rfl⟩,bG (by kernel_rfl)⟩
theorem agn_8_api_Pte:Ag Tryz.prog tH 24:=⟨⟨_,Tryz.underlying187,rfl⟩,bG (by kernel_rfl)⟩
theorem arn_8_api_Pte:Tryz.prog.underlying tH = some (.array 8 t_api_Pte):=Tryz.underlying187
theorem age_8_api_Pte:Ag Tryz.prog t_api_Pte 3:=⟨⟨_,Tryz.underlying74,rfl⟩,bG (by kernel_rfl)⟩
theorem agn_8_api_Cap:Ag Tryz.prog kW 32:=⟨⟨_,Tryz.underlying210,rfl⟩,bG (by kernel_rfl)⟩
theorem arn_8_api_Cap:Tryz.prog.underlying kW = some (.array 8 fL):=Tryz.underlying210
theorem age_8_api_Cap:Ag Tryz.prog fL 4:=⟨⟨_,Tryz.underlying70,rfl⟩,bG (by kernel_rfl)⟩
end Go.Proofs.YtniiiakkdoiaiaaGreatDoor
namespace Go.Proofs.YtniiiakkdoiaiaaGreatDoor
open Go Mb
set_option linter.unusedVariables false
def sh_hist_one (a0:au) (a1:aC) (a2:Int) (K:Bool→Hp→Prop):Hp→Prop:=br (((((decide (a0.fCore < 0)) || (decide (a0.fCore ≥ a1.fCores))) || (decide (a0.fEnv < 0))) || (decide (a0.fEnv ≥ a1.fEnvs))) || (decide (a0.fBegin ≤ a2))) ( K false) ( br (a0.fEffect == 0) ( K (a0.fEnd == 0)) ( K ((decide (a0.fEffect ≥ a0.fBegin)) && ((a0.fEnd == 0) || (decide (a0.fEnd ≥ a0.fEffect))))))
theorem sim_hist_one (a0:au) (a1:aC) (a2:Int) {K:Bool→Hp→Prop} {h:Hp} (H:sh_hist_one a0 a1 a2 K h):Ct Tryz.prog n_hist_one #[(.agg (au.C a0).toArray),(.agg (aC.C a1).toArray),(.int .i64 a2)] h fun v h'=>∃ r,v = aB r∧K r h':=aw [(.agg (au.C a0).toArray),(.agg (aC.C a1).toArray),(.int .i64 a2)] Tryz.func52 c c c fun _=>M<|aa<|cJ (l:=au.C a0) c c c fun b3=>aa<|cJ (l:=aC.C a1) c c c fun b4=>O c<|ak<|ax<|M<|p (ad qQ c)<|bh (bf (k:=1) aY c c c) c<|p (ct c c)<|J c<|V c c (aM _) (fun g1=>wv<|ad qQ c)<|V c c (aM _) (fun g2=>cv<|bf (k:=1) aY (aD c g2) c c)<|V c c (aM _) (fun g3=>wv<|ad oP c)<|V c c (aM _) (fun g4=>cv<|bf (k:=0) aY (aD c g4) c c)<|V c c (aM _) (fun g5=>wv<|jH (aD c g5)<|aD c g5)<|p (dp c c)<|J c<|V c c (aM _) (fun g6=>wv<|ad oO c)<|V c c (aM _) (fun g7=>cv<|bf (k:=1) aY (aD c g7) c c)<|V c c (aM _) (fun g8=>wv<|ct (aD c g8) c)<|p (dp c c)<|J c<|V c c (aM _) (fun g9=>wv<|ad oO c)<|V c c (aM _) (fun g10=>cv<|bf (k:=1) aY (aD c g10) c c)<|V c c (aM _) (fun g11=>wv<|ad mP c)<|V c c (aM _) (fun g12=>cv<|bf (k:=0) aY (aD c g12) c c)<|V c c (aM _) (fun g13=>wv<|jH (aD c g13)<|aD c g13)<|p (dp c c)<|J c<|V c c (aM _) (fun g14=>wv<|ad tf c)<|V c c (aM _) (fun g15=>cv<|bf (k:=1) aY (aD c g15) c c)<|V c c (aM _) (fun g16=>wv<|ah c)<|V c c (aM _) (fun g17=>wv<|v_le (aD c g17)<|aD c g17)<|p (dp c c)<|O c<|av c H (fun k18 H19=>M<|O c<|ai<|Y ⟨false,c,H19⟩) fun k18 H19=>M<|p (ad iX c)<|bh (bf (k:=1) aY c c c) c<|p (bM c c)<|O c<|av c H19 (fun k20 H21=>M<|p (ad qP c)<|bh (bf (k:=1) aY c c c) c<|p (bM c c)<|O c<|ai<|Y ⟨(a0.fEnd == 0),c,H21⟩) fun k20 H21=>an<|M<|p (ad iX c)<|bh (bf (k:=1) aY c c c) c<|p (ad tf c)<|bh (bf (k:=1) aY c c c) c<|p (jH c c)<|J c<|V c c (ay _) (fun g22=>wv<|ad qP c)<|V c c (ay _) (fun g23=>cv<|bf (k:=1) aY (aD c g23) c c)<|V c c (ay _) (fun g24=>wv<|bM (aD c g24) c)<|V c c (ay _) (fun g25=>wv<|ah<|aD c g25)<|V c c (dR _ _) (fun g26=>wv<|ad qP c)<|V c c (dR _ _) (fun g27=>cv<|bf (k:=1) aY (aD c g27) c c)<|V c c (dR _ _) (fun g28=>wv<|ad iX c)<|V c c (dR _ _) (fun g29=>cv<|bf (k:=1) aY (aD c g29) c c)<|V c c (dR _ _) (fun g30=>wv<|jH (aD c g30)<|aD c g30)<|V c c (ay _) (fun g31=>wv<|dp (aD c g31)<|aL c<|xg g31)<|p (bP c c)<|O c<|ai<|Y ⟨((decide (a0.fEffect ≥ a0.fBegin)) && ((a0.fEnd == 0) || (decide (a0.fEnd ≥ a0.fEffect)))),c,H21⟩
def eD (a0:au) (a1:aC) (a2:Int):Bool:=(bif (((((decide (a0.fCore < 0)) || (decide (a0.fCore ≥ a1.fCores))) || (decide (a0.fEnv < 0))) || (decide (a0.fEnv ≥ a1.fEnvs))) || (decide (a0.fBegin ≤ a2))) then (false) else (bif (a0.fEffect == 0) then ((a0.fEnd == 0)) else (((decide (a0.fEffect ≥ a0.fBegin)) && ((a0.fEnd == 0) || (decide (a0.fEnd ≥ a0.fEffect)))))))
theorem pr_hist_one (a0:au) (a1:aC) (a2:Int) {K:Bool→Hp→Prop} {h:Hp} (k:K (eD a0 a1 a2) h):sh_hist_one a0 a1 a2 K h:=(kg (K:=K) (fun k=>k) (kg (K:=K) (fun k=>k) (fun k=>k))) k
theorem ct_hist_one (a0:au) (a1:aC) (a2:Int) (h:Hp):Ct Tryz.prog n_hist_one #[(.agg (au.C a0).toArray),(.agg (aC.C a1).toArray),(.int .i64 a2)] h fun v h'=>∃ r,v = aB r∧(r = eD a0 a1 a2∧h' = h):=sim_hist_one a0 a1 a2 (pr_hist_one a0 a1 a2 ⟨rfl,rfl⟩)
def vj (a0:au) (K:Bool→Hp→Prop):Hp→Prop:=K (decide (a0.fEffect > 0))
theorem sim_hist_Order_c1 (a0:au) {K:Bool→Hp→Prop} {h:Hp} (H:vj a0 K h):Ct Tryz.prog mX #[(.agg (au.C a0).toArray)] h fun v h'=>∃ r,v = aB r∧K r h':=aw [(.agg (au.C a0).toArray)] Tryz.func56 c c c fun _=>M<|aa<|cJ (l:=au.C a0) c c c fun b1=>O c<|M<|p (ad iX c)<|bh (bf (k:=0) aY c c c) c<|p (qr c c)<|O c<|ai<|Y ⟨decide (a0.fEffect > 0),c,H⟩
def vr (a0:au):Bool:=((decide (a0.fEffect > 0)))
theorem pr_hist_Order_c1 (a0:au) {K:Bool→Hp→Prop} {h:Hp} (k:K (vr a0) h):vj a0 K h:=(fun k=>k) k
theorem ct_hist_Order_c1 (a0:au) (h:Hp):Ct Tryz.prog mX #[(.agg (au.C a0).toArray)] h fun v h'=>∃ r,v = aB r∧(r = vr a0∧h' = h):=sim_hist_Order_c1 a0 (pr_hist_Order_c1 a0 ⟨rfl,rfl⟩)
def vm (a0:Int) (K:Bool→Hp→Prop):Hp→Prop:=K (a0 != a0)
theorem sim_cmp_isNaN_int (a0:Int) {K:Bool→Hp→Prop} {h:Hp} (H:vm a0 K h):Ct Tryz.prog n_cmp_isNaN_int #[(.int .i64 a0)] h fun v h'=>∃ r,v = aB r∧K r h':=aw [(.int .i64 a0)] Tryz.func89 c c c fun _=>M<|O c<|M<|J c<|J c<|p (pF c c)<|O c<|ai<|Y ⟨(a0 != a0),c,H⟩
def ee (a0:Int):Bool:=((a0 != a0))
theorem pr_cmp_isNaN_int (a0:Int) {K:Bool→Hp→Prop} {h:Hp} (k:K (ee a0) h):vm a0 K h:=(fun k=>k) k
theorem vR (a0:Int) (h:Hp):Ct Tryz.prog n_cmp_isNaN_int #[(.int .i64 a0)] h fun v h'=>∃ r,v = aB r∧(r = ee a0∧h' = h):=sim_cmp_isNaN_int a0 (pr_cmp_isNaN_int a0 ⟨rfl,rfl⟩)
def sM (a0:Int) (a1:Int) (K:Int→Hp→Prop):Hp→Prop:=br (ee a0) ( br (ee a1) ( K 0) ( K (-1))) ( br (ee a1) ( K 1) ( br (decide (a0 < a1)) ( K (-1)) ( br (decide (a0 > a1)) ( K 1) ( K 0))))
theorem sim_cmp_Compare_int (a0:Int) (a1:Int) {K:Int→Hp→Prop} {h:Hp} (H:sM a0 a1 K h):Ct Tryz.prog uq #[(.int .i64 a0),(.int .i64 a1)] h fun v h'=>∃ r,v = eA r∧K r h':=aw [(.int .i64 a0),(.int .i64 a1)] Tryz.func59 c c c fun _=>M<|O c<|M<|J c<|aa<|cH (vs:=[(.int .i64 a0)]) (bv<|vR a0 _) en_89 c c<|O c<|M<|J c<|aa<|cH (vs:=[(.int .i64 a1)]) (bv<|vR a1 _) en_89 c c<|O c<|ak<|M<|J c<|ac<|av c H (fun k1 H2=>ak<|M<|J c<|ac<|av c H2 (fun k3 H4=>M<|O c<|ai<|Y ⟨0,c,H4⟩) fun k3 H4=>an<|M<|O c<|ai<|Y ⟨(-1),c,H4⟩) fun k1 H2=>an<|ak<|M<|J c<|ac<|av c H2 (fun k5 H6=>M<|O c<|ai<|Y ⟨1,c,H6⟩) fun k5 H6=>an<|ak<|M<|J c<|J c<|p (ct c c)<|ac<|av c H6 (fun k7 H8=>M<|O c<|ai<|Y ⟨(-1),c,H8⟩) fun k7 H8=>an<|ak<|M<|J c<|J c<|p (qr c c)<|ac<|av c H8 (fun k9 H10=>M<|O c<|ai<|Y ⟨1,c,H10⟩) fun k9 H10=>an<|M<|O c<|ai<|Y ⟨0,c,H10⟩
def fN (a0:Int) (a1:Int):Int:=(bif (ee a0) then (bif (ee a1) then (0) else ((-1))) else (bif (ee a1) then (1) else (bif (decide (a0 < a1)) then ((-1)) else (bif (decide (a0 > a1)) then (1) else (0)))))
theorem pr_cmp_Compare_int (a0:Int) (a1:Int) {K:Int→Hp→Prop} {h:Hp} (k:K (fN a0 a1) h):sM a0 a1 K h:=(kg (K:=K) (kg (K:=K) (fun k=>k) (fun k=>k)) (kg (K:=K) (fun k=>k) (kg (K:=K) (fun k=>k) (kg (K:=K) (fun k=>k) (fun k=>k))))) k
theorem ct_cmp_Compare_int (a0:Int) (a1:Int) (h:Hp):Ct Tryz.prog uq #[(.int .i64 a0),(.int .i64 a1)] h fun v h'=>∃ r,v = eA r∧(r = fN a0 a1∧h' = h):=sim_cmp_Compare_int a0 a1 (pr_cmp_Compare_int a0 a1 ⟨rfl,rfl⟩)
def sh_tlb_empty (K:al→Hp→Prop):Hp→Prop:=K (⟨(-1),0,0,0⟩:al)
theorem sim_tlb_empty {K:al→Hp→Prop} {h:Hp} (H:sh_tlb_empty K h):Ct Tryz.prog n_tlb_empty #[] h fun v h'=>∃ r,v = R_api_Line r∧K r h':=aw [] Tryz.func117 c c c fun _=>M<|aa<|aK (l:=al.C (⟨0,0,0,0⟩:al)) kK c c fun b0=>ac<|M<|p (aZ c<|build_49_0 (-1))<|aa<|aO (k:=0) (vs:=al.C (⟨(-1),0,0,0⟩:al)) fH c c c c c c c<|ac<|ai<|bw (mg c<|bC (k:=0) c gV c c) ⟨(⟨(-1),0,0,0⟩:al),c,H⟩
def fW:al:=((⟨(-1),0,0,0⟩:al))
theorem pr_tlb_empty {K:al→Hp→Prop} {h:Hp} (k:K (fW) h):sh_tlb_empty K h:=(fun k=>k) k
theorem ct_tlb_empty (h:Hp):Ct Tryz.prog n_tlb_empty #[] h fun v h'=>∃ r,v = R_api_Line r∧(r = fW∧h' = h):=sim_tlb_empty (pr_tlb_empty ⟨rfl,rfl⟩)
def sh_word_Kind (a0:ae) (K:(Int × Bool)→Hp→Prop):Hp→Prop:=br (((decide (a0.e0 ≥ 1)) && (decide (a0.e0 ≤ 10))) || ((decide (a0.e0 ≥ 20)) && (decide (a0.e0 ≤ 23)))) ( K ((IntKind.i64.wrap a0.e0),true)) ( K (0,false))
theorem sim_word_Kind (a0:ae) {K:(Int × Bool)→Hp→Prop} {h:Hp} (H:sh_word_Kind a0 K h):Ct Tryz.prog n_word_Kind #[(.agg (ae.C a0).toArray)] h fun v h'=>∃ r,v = bK r∧K r h':=aw [(.agg (ae.C a0).toArray)] Tryz.func64 c c c fun _=>M<|aa<|cJ (l:=ae.C a0) c c c fun b1=>p (ar c)<|O c<|ak<|M<|p (bz de c c (by decide))<|bh (bf (k:=0) cu c c c) c<|O c<|M<|J c<|p (jH c c)<|J c<|V c c (ay _) (fun g1=>wv<|ah c)<|V c c (ay _) (fun g2=>wv<|v_le (aD c g2) c)<|p (bP c c)<|J c<|V c c (aM _) (fun g3=>wv<|ah c)<|V c c (aM _) (fun g4=>wv<|jH (aD c g4) c)<|V c c (aM _) (fun g5=>wv<|ah<|aD c g5)<|V c c (rj _ _) (fun g6=>wv<|ah c)<|V c c (rj _ _) (fun g7=>wv<|v_le (aD c g7) c)<|V c c (aM _) (fun g8=>wv<|bP (aD c g8)<|aL c<|xg g8)<|p (dp c c)<|ac<|av c H (fun k9 H10=>M<|J c<|p (dT ⟨_,Tryz.underlying25⟩ Tryz.underlying3 c)<|p (ar c)<|O c<|ai<|bw (bR c (bY c)<|bY c) ⟨((IntKind.i64.wrap a0.e0),true),c,H10⟩) fun k9 H10=>an<|M<|p (ar c)<|O c<|ai<|bw (bR c (bY c)<|bY c) ⟨(0,false),c,H10⟩
def az (a0:ae):Int × Bool:=(bif (((decide (a0.e0 ≥ 1)) && (decide (a0.e0 ≤ 10))) || ((decide (a0.e0 ≥ 20)) && (decide (a0.e0 ≤ 23)))) then (((IntKind.i64.wrap a0.e0),true)) else ((0,false)))
theorem pr_word_Kind (a0:ae) {K:(Int × Bool)→Hp→Prop} {h:Hp} (k:K (az a0) h):sh_word_Kind a0 K h:=(kg (K:=K) (fun k=>k) (fun k=>k)) k
theorem ka (a0:ae) (h:Hp):Ct Tryz.prog n_word_Kind #[(.agg (ae.C a0).toArray)] h fun v h'=>∃ r,v = bK r∧(r = az a0∧h' = h):=sim_word_Kind a0 (pr_word_Kind a0 ⟨rfl,rfl⟩)
def sh_word_User (a0:Int) (K:Bool→Hp→Prop):Hp→Prop:=K ((decide (a0 ≥ 20)) && (decide (a0 ≤ 23)))
theorem sim_word_User (a0:Int) {K:Bool→Hp→Prop} {h:Hp} (H:sh_word_User a0 K h):Ct Tryz.prog n_word_User #[(.int .i64 a0)] h fun v h'=>∃ r,v = aB r∧K r h':=aw [(.int .i64 a0)] Tryz.func65 c c c fun _=>M<|O c<|M<|J c<|p (jH c c)<|J c<|V c c (ay _) (fun g1=>wv<|ah c)<|V c c (ay _) (fun g2=>wv<|v_le (aD c g2) c)<|p (bP c c)<|O c<|ai<|Y ⟨((decide (a0 ≥ 20)) && (decide (a0 ≤ 23))),c,H⟩
def bJ (a0:Int):Bool:=(((decide (a0 ≥ 20)) && (decide (a0 ≤ 23))))
theorem pr_word_User (a0:Int) {K:Bool→Hp→Prop} {h:Hp} (k:K (bJ a0) h):sh_word_User a0 K h:=(fun k=>k) k
theorem sd (a0:Int) (h:Hp):Ct Tryz.prog n_word_User #[(.int .i64 a0)] h fun v h'=>∃ r,v = aB r∧(r = bJ a0∧h' = h):=sim_word_User a0 (pr_word_User a0 ⟨rfl,rfl⟩)
def sh_word_Rights (a0:Int) (K:(Int × Bool)→Hp→Prop):Hp→Prop:=br ((decide (a0 < 1)) || (decide (a0 > 3))) ( K (0,false)) ( K ((IntKind.i64.wrap a0),true))
theorem sim_word_Rights (a0:Int) {K:(Int × Bool)→Hp→Prop} {h:Hp} (H:sh_word_Rights a0 K h):Ct Tryz.prog n_word_Rights #[(.int .u64 a0)] h fun v h'=>∃ r,v = bK r∧K r h':=aw [(.int .u64 a0)] Tryz.func176 c c c fun _=>M<|p (ar c)<|O c<|ak<|M<|J c<|p (ct c c)<|J c<|V c c (aM _) (fun g1=>wv<|ah c)<|V c c (aM _) (fun g2=>wv<|qr (aD c g2) c)<|p (dp c c)<|ac<|av c H (fun k3 H4=>M<|p (ar c)<|O c<|ai<|bw (bR c (bY c)<|bY c) ⟨(0,false),c,H4⟩) fun k3 H4=>an<|M<|J c<|p (dT ⟨_,Tryz.underlying25⟩ Tryz.underlying3 c)<|p (ar c)<|O c<|ai<|bw (bR c (bY c)<|bY c) ⟨((IntKind.i64.wrap a0),true),c,H4⟩
def hZ (a0:Int):Int × Bool:=(bif ((decide (a0 < 1)) || (decide (a0 > 3))) then ((0,false)) else (((IntKind.i64.wrap a0),true)))
theorem pr_word_Rights (a0:Int) {K:(Int × Bool)→Hp→Prop} {h:Hp} (k:K (hZ a0) h):sh_word_Rights a0 K h:=(kg (K:=K) (fun k=>k) (fun k=>k)) k
theorem ct_word_Rights (a0:Int) (h:Hp):Ct Tryz.prog n_word_Rights #[(.int .u64 a0)] h fun v h'=>∃ r,v = bK r∧(r = hZ a0∧h' = h):=sim_word_Rights a0 (pr_word_Rights a0 ⟨rfl,rfl⟩)
def sh_table_is (a0:Int) (K:Bool→Hp→Prop):Hp→Prop:=K ((decide (a0 ≥ 0)) && (decide (a0 < 8)))
theorem sim_table_is (a0:Int) {K:Bool→Hp→Prop} {h:Hp} (H:sh_table_is a0 K h):Ct Tryz.prog n_table_is #[(.int .i64 a0)] h fun v h'=>∃ r,v = aB r∧K r h':=aw [(.int .i64 a0)] Tryz.func140 c c c fun _=>M<|O c<|M<|J c<|p (jH c c)<|J c<|V c c (ay _) (fun g1=>wv<|ah c)<|V c c (ay _) (fun g2=>wv<|ct (aD c g2) c)<|p (bP c c)<|O c<|ai<|Y ⟨((decide (a0 ≥ 0)) && (decide (a0 < 8))),c,H⟩
def bt (a0:Int):Bool:=(((decide (a0 ≥ 0)) && (decide (a0 < 8))))
theorem pr_table_is (a0:Int) {K:Bool→Hp→Prop} {h:Hp} (k:K (bt a0) h):sh_table_is a0 K h:=(fun k=>k) k
theorem uv (a0:Int) (h:Hp):Ct Tryz.prog n_table_is #[(.int .i64 a0)] h fun v h'=>∃ r,v = aB r∧(r = bt a0∧h' = h):=sim_table_is a0 (pr_table_is a0 ⟨rfl,rfl⟩)
def sh_pte_May (a0:Int) (K:Bool→Hp→Prop):Hp→Prop:=K ((decide (a0 ≥ 1)) && (decide (a0 ≤ 3)))
theorem sim_pte_May (a0:Int) {K:Bool→Hp→Prop} {h:Hp} (H:sh_pte_May a0 K h):Ct Tryz.prog n_pte_May #[(.int .i64 a0)] h fun v h'=>∃ r,v = aB r∧K r h':=aw [(.int .i64 a0)] Tryz.func150 c c c fun _=>M<|O c<|M<|J c<|p (jH c c)<|J c<|V c c (ay _) (fun g1=>wv<|ah c)<|V c c (ay _) (fun g2=>wv<|v_le (aD c g2) c)<|p (bP c c)<|O c<|ai<|Y ⟨((decide (a0 ≥ 1)) && (decide (a0 ≤ 3))),c,H⟩
def ce (a0:Int):Bool:=(((decide (a0 ≥ 1)) && (decide (a0 ≤ 3))))
theorem pr_pte_May (a0:Int) {K:Bool→Hp→Prop} {h:Hp} (k:K (ce a0) h):sh_pte_May a0 K h:=(fun k=>k) k
theorem qb (a0:Int) (h:Hp):Ct Tryz.prog n_pte_May #[(.int .i64 a0)] h fun v h'=>∃ r,v = aB r∧(r = ce a0∧h' = h):=sim_pte_May a0 (pr_pte_May a0 ⟨rfl,rfl⟩)
def sh_pte_Within (a0:Int) (a1:Int) (K:Bool→Hp→Prop):Hp→Prop:=K (((ce a0) && (ce a1)) && ((iandnot .i64 a0 a1) == 0))
theorem sim_pte_Within (a0:Int) (a1:Int) {K:Bool→Hp→Prop} {h:Hp} (H:sh_pte_Within a0 a1 K h):Ct Tryz.prog n_pte_Within #[(.int .i64 a0),(.int .i64 a1)] h fun v h'=>∃ r,v = aB r∧K r h':=aw [(.int .i64 a0),(.int .i64 a1)] Tryz.func101 c c c fun _=>M<|O c<|M<|J c<|aa<|cH (vs:=[(.int .i64 a0)]) (bv<|qb a0 _) en_150 c c<|J c<|V c c (ay _) (fun g1=>wv<|ah c)<|cX (vs:=[(.int .i64 a1)]) c c c (ay _) (fun g2=>bv<|qb a1 _) en_150 (fun g2=>aS (aD c g2) bS) c<|p (bP c c)<|J c<|V c c (ay _) (fun g3=>wv<|ah c)<|V c c (ay _) (fun g4=>wv<|ah c)<|V c c (ay _) (fun g5=>wv<|v_iandnot (aD c g5)<|aD c g5)<|V c c (ay _) (fun g6=>wv<|bM (aD c g6) c)<|p (bP c c)<|O c<|ai<|Y ⟨(((ce a0) && (ce a1)) && ((iandnot .i64 a0 a1) == 0)),c,H⟩
def aP (a0:Int) (a1:Int):Bool:=((((ce a0) && (ce a1)) && ((iandnot .i64 a0 a1) == 0)))
theorem pr_pte_Within (a0:Int) (a1:Int) {K:Bool→Hp→Prop} {h:Hp} (k:K (aP a0 a1) h):sh_pte_Within a0 a1 K h:=(fun k=>k) k
theorem cZ (a0:Int) (a1:Int) (h:Hp):Ct Tryz.prog n_pte_Within #[(.int .i64 a0),(.int .i64 a1)] h fun v h'=>∃ r,v = aB r∧(r = aP a0 a1∧h' = h):=sim_pte_Within a0 a1 (pr_pte_Within a0 a1 ⟨rfl,rfl⟩)
def sh_pte_Put (a0:am) (K:(Int × Bool)→Hp→Prop):Hp→Prop:=br (am.eqb a0 (⟨0,0,0⟩:am)) ( K (0,true)) ( br (((((decide (a0.fFrame < 0)) || (decide (a0.fFrame ≥ 16))) || (decide (a0.fSlot < 0))) || (decide (a0.fSlot ≥ 8))) || (!(ce a0.fRights))) ( K (0,false)) ( K ((IntKind.u64.wrap (IntKind.i64.wrap ((IntKind.i64.wrap ((IntKind.i64.wrap (32768 + (IntKind.i64.wrap (256 * a0.fFrame)))) + (IntKind.i64.wrap (16 * a0.fSlot)))) + a0.fRights))),true)))
theorem sim_pte_Put (a0:am) {K:(Int × Bool)→Hp→Prop} {h:Hp} (H:sh_pte_Put a0 K h):Ct Tryz.prog n_pte_Put #[(.agg (am.C a0).toArray)] h fun v h'=>∃ r,v = bI r∧K r h':=aw [(.agg (am.C a0).toArray)] Tryz.func139 c c c fun _=>M<|aa<|cJ (l:=am.C a0) c c c fun b1=>p (ar c)<|O c<|ak<|M<|bh (bB (k:=0) fD c c c c) c<|p (aZ (vs:=[]) c mQ)<|p (v_eqA eqg_74 (eqr_74 9998 _ _) c c)<|ac<|av c H (fun k1 H2=>M<|p (ar c)<|O c<|ai<|bw (bR c (bY c)<|bY c) ⟨(0,true),c,H2⟩) fun k1 H2=>an<|ak<|M<|p (ad qN c)<|bh (bf (k:=0) aY c c c) c<|p (ct c c)<|J c<|V c c (aM _) (fun g3=>wv<|ad qN c)<|V c c (aM _) (fun g4=>cv<|bf (k:=0) aY (aD c g4) c c)<|V c c (aM _) (fun g5=>wv<|jH (aD c g5) c)<|p (dp c c)<|J c<|V c c (aM _) (fun g6=>wv<|ad td c)<|V c c (aM _) (fun g7=>cv<|bf (k:=0) aY (aD c g7) c c)<|V c c (aM _) (fun g8=>wv<|ct (aD c g8) c)<|p (dp c c)<|J c<|V c c (aM _) (fun g9=>wv<|ad td c)<|V c c (aM _) (fun g10=>cv<|bf (k:=0) aY (aD c g10) c c)<|V c c (aM _) (fun g11=>wv<|jH (aD c g11) c)<|p (dp c c)<|J c<|V c c (aM _) (fun g12=>wv<|ad eI c)<|V c c (aM _) (fun g13=>cv<|bf (k:=0) aY (aD c g13) c c)<|cX (vs:=[(.int .i64 a0.fRights)]) c c c (aM _) (fun g14=>bv<|qb a0.fRights _) en_150 (fun g14=>aS (aD c g14) bS) c<|V c c (aM _) (fun g15=>wv<|cn<|aD c g15)<|p (dp c c)<|ac<|av c H2 (fun k16 H17=>M<|p (ar c)<|O c<|ai<|bw (bR c (bY c)<|bY c) ⟨(0,false),c,H17⟩) fun k16 H17=>an<|M<|p (ad qN c)<|bh (bf (k:=0) aY c c c) c<|p (v_mul c c)<|p (bp c c)<|p (ad td c)<|bh (bf (k:=0) aY c c c) c<|p (v_mul c c)<|p (bp c c)<|p (ad eI c)<|bh (bf (k:=0) aY c c c) c<|p (bp c c)<|p (dT ⟨_,Tryz.underlying3⟩ Tryz.underlying25 c)<|p (ar c)<|O c<|ai<|bw (bR c (bY c)<|bY c) ⟨((IntKind.u64.wrap (IntKind.i64.wrap ((IntKind.i64.wrap ((IntKind.i64.wrap (32768 + (IntKind.i64.wrap (256 * a0.fFrame)))) + (IntKind.i64.wrap (16 * a0.fSlot)))) + a0.fRights))),true),c,H17⟩
def eN (a0:am):Int × Bool:=(bif (am.eqb a0 (⟨0,0,0⟩:am)) then ((0,true)) else (bif (((((decide (a0.fFrame < 0)) || (decide (a0.fFrame ≥ 16))) || (decide (a0.fSlot < 0))) || (decide (a0.fSlot ≥ 8))) || (!(ce a0.fRights))) then ((0,false)) else (((IntKind.u64.wrap (IntKind.i64.wrap ((IntKind.i64.wrap ((IntKind.i64.wrap (32768 + (IntKind.i64.wrap (256 * a0.fFrame)))) + (IntKind.i64.wrap (16 * a0.fSlot)))) + a0.fRights))),true))))
theorem pr_pte_Put (a0:am) {K:(Int × Bool)→Hp→Prop} {h:Hp} (k:K (eN a0) h):sh_pte_Put a0 K h:=(kg (K:=K) (fun k=>k) (kg (K:=K) (fun k=>k) (fun k=>k))) k
theorem ct_pte_Put (a0:am) (h:Hp):Ct Tryz.prog n_pte_Put #[(.agg (am.C a0).toArray)] h fun v h'=>∃ r,v = bI r∧(r = eN a0∧h' = h):=sim_pte_Put a0 (pr_pte_Put a0 ⟨rfl,rfl⟩)
def sh_pte_Lets (a0:Int) (a1:Int) (K:Bool→Hp→Prop):Hp→Prop:=br (a1 == 20) ( K (aP 1 a0)) ( br (a1 == 21) ( K (aP 2 a0)) ( br (a1 == 22) ( K (aP 3 a0)) ( br (a1 == 23) ( K (aP 3 a0)) ( K (aP 0 a0)))))
theorem sim_pte_Lets (a0:Int) (a1:Int) {K:Bool→Hp→Prop} {h:Hp} (H:sh_pte_Lets a0 a1 K h):Ct Tryz.prog n_pte_Lets #[(.int .i64 a0),(.int .i64 a1)] h fun v h'=>∃ r,v = aB r∧K r h':=aw [(.int .i64 a0),(.int .i64 a1)] Tryz.func142 c c c fun _=>M<|O c<|M<|O c<|ak<|M<|J c<|ac<|ax<|M<|p (bM c c)<|O c<|av c H (fun k1 H2=>ao<|O c<|M<|J c<|J c<|aa<|cH (vs:=[(.int .i64 1),(.int .i64 a0)]) (bv<|cZ 1 a0 _) mw c c<|O c<|ai<|Y ⟨aP 1 a0,c,H2⟩) fun k1 H2=>M<|p (bM c c)<|O c<|av c H2 (fun k3 H4=>ao<|O c<|M<|J c<|J c<|aa<|cH (vs:=[(.int .i64 2),(.int .i64 a0)]) (bv<|cZ 2 a0 _) mw c c<|O c<|ai<|Y ⟨aP 2 a0,c,H4⟩) fun k3 H4=>ak<|M<|p (bM c c)<|O c<|av c H4 (fun k5 H6=>an<|mu c k5<|ao<|O c<|M<|J c<|J c<|aa<|cH (vs:=[(.int .i64 3),(.int .i64 a0)]) (bv<|cZ 3 a0 _) mw c c<|O c<|ai<|Y ⟨aP 3 a0,c,H6⟩) fun k5 H6=>ao<|p (bM c c)<|O c<|av c H6 (fun k7 H8=>ao<|O c<|M<|J c<|J c<|aa<|cH (vs:=[(.int .i64 3),(.int .i64 a0)]) (bv<|cZ 3 a0 _) mw c c<|O c<|ai<|Y ⟨aP 3 a0,c,H8⟩) fun k7 H8=>an<|M<|J c<|J c<|aa<|cH (vs:=[(.int .i64 0),(.int .i64 a0)]) (bv<|cZ 0 a0 _) mw c c<|O c<|ai<|Y ⟨aP 0 a0,c,H8⟩
def cr (a0:Int) (a1:Int):Bool:=(bif (a1 == 20) then ((aP 1 a0)) else (bif (a1 == 21) then ((aP 2 a0)) else (bif (a1 == 22) then ((aP 3 a0)) else (bif (a1 == 23) then ((aP 3 a0)) else ((aP 0 a0))))))
theorem pr_pte_Lets (a0:Int) (a1:Int) {K:Bool→Hp→Prop} {h:Hp} (k:K (cr a0 a1) h):sh_pte_Lets a0 a1 K h:=(kg (K:=K) (fun k=>k) (kg (K:=K) (fun k=>k) (kg (K:=K) (fun k=>k) (kg (K:=K) (fun k=>k) (fun k=>k))))) k
theorem jN (a0:Int) (a1:Int) (h:Hp):Ct Tryz.prog n_pte_Lets #[(.int .i64 a0),(.int .i64 a1)] h fun v h'=>∃ r,v = aB r∧(r = cr a0 a1∧h' = h):=sim_pte_Lets a0 a1 (pr_pte_Lets a0 a1 ⟨rfl,rfl⟩)
def rD (a0:Int) (K:Bool→Hp→Prop):Hp→Prop:=K (a0 != a0)
theorem sim_cmp_isNaN_uint64 (a0:Int) {K:Bool→Hp→Prop} {h:Hp} (H:rD a0 K h):Ct Tryz.prog sZ #[(.int .u64 a0)] h fun v h'=>∃ r,v = aB r∧K r h':=aw [(.int .u64 a0)] Tryz.func200 c c c fun _=>M<|O c<|M<|J c<|J c<|p (pF c c)<|O c<|ai<|Y ⟨(a0 != a0),c,H⟩
def dn (a0:Int):Bool:=((a0 != a0))
theorem pr_cmp_isNaN_uint64 (a0:Int) {K:Bool→Hp→Prop} {h:Hp} (k:K (dn a0) h):rD a0 K h:=(fun k=>k) k
theorem rG (a0:Int) (h:Hp):Ct Tryz.prog sZ #[(.int .u64 a0)] h fun v h'=>∃ r,v = aB r∧(r = dn a0∧h' = h):=sim_cmp_isNaN_uint64 a0 (pr_cmp_isNaN_uint64 a0 ⟨rfl,rfl⟩)
def sL (a0:Int) (a1:Int) (K:Bool→Hp→Prop):Hp→Prop:=K (((dn a0) && (!(dn a1))) || (decide (a0 < a1)))
theorem sim_cmp_Less_uint64 (a0:Int) (a1:Int) {K:Bool→Hp→Prop} {h:Hp} (H:sL a0 a1 K h):Ct Tryz.prog uo #[(.int .u64 a0),(.int .u64 a1)] h fun v h'=>∃ r,v = aB r∧K r h':=aw [(.int .u64 a0),(.int .u64 a1)] Tryz.func178 c c c fun _=>M<|O c<|M<|J c<|aa<|cH (vs:=[(.int .u64 a0)]) (bv<|rG a0 _) en_200 c c<|J c<|V c c (ay _) (fun g1=>wv<|ah c)<|cX (vs:=[(.int .u64 a1)]) c c c (ay _) (fun g2=>bv<|rG a1 _) en_200 (fun g2=>aS (aD c g2) bS) c<|V c c (ay _) (fun g3=>wv<|cn<|aD c g3)<|p (bP c c)<|J c<|V c c (aM _) (fun g4=>wv<|ah c)<|V c c (aM _) (fun g5=>wv<|ah c)<|V c c (aM _) (fun g6=>wv<|ct (aD c g6)<|aD c g6)<|p (dp c c)<|O c<|ai<|Y ⟨(((dn a0) && (!(dn a1))) || (decide (a0 < a1))),c,H⟩
def ia (a0:Int) (a1:Int):Bool:=((((dn a0) && (!(dn a1))) || (decide (a0 < a1))))
theorem pr_cmp_Less_uint64 (a0:Int) (a1:Int) {K:Bool→Hp→Prop} {h:Hp} (k:K (ia a0 a1) h):sL a0 a1 K h:=(fun k=>k) k
theorem ct_cmp_Less_uint64 (a0:Int) (a1:Int) (h:Hp):Ct Tryz.prog uo #[(.int .u64 a0),(.int .u64 a1)] h fun v h'=>∃ r,v = aB r∧(r = ia a0 a1∧h' = h):=sim_cmp_Less_uint64 a0 a1 (pr_cmp_Less_uint64 a0 a1 ⟨rfl,rfl⟩)
def oo (a0:Int) (K:Bool→Hp→Prop):Hp→Prop:=K (a0 != a0)
theorem uS (a0:Int) {K:Bool→Hp→Prop} {h:Hp} (H:oo a0 K h):Ct Tryz.prog pC #[(.int .u64 a0)] h fun v h'=>∃ r,v = aB r∧K r h':=aw [(.int .u64 a0)] Tryz.func179 c c c fun _=>M<|O c<|M<|J c<|J c<|p (pF c c)<|O c<|ai<|Y ⟨(a0 != a0),c,H⟩
def dD (a0:Int):Bool:=((a0 != a0))
theorem wO (a0:Int) {K:Bool→Hp→Prop} {h:Hp} (k:K (dD a0) h):oo a0 K h:=(fun k=>k) k
theorem oR (a0:Int) (h:Hp):Ct Tryz.prog pC #[(.int .u64 a0)] h fun v h'=>∃ r,v = aB r∧(r = dD a0∧h' = h):=uS a0 (wO a0 ⟨rfl,rfl⟩)
def sh_plain_fails (a0:Int) (K:(ab × Bool)→Hp→Prop):Hp→Prop:=K ((⟨a0,0⟩:ab),true)
theorem sim_plain_fails (a0:Int) {K:(ab × Bool)→Hp→Prop} {h:Hp} (H:sh_plain_fails a0 K h):Ct Tryz.prog n_plain_fails #[(.int .i64 a0)] h fun v h'=>∃ r,v = bg r∧K r h':=aw [(.int .i64 a0)] Tryz.func108 c c c fun _=>M<|aa<|aK (l:=ab.C (⟨0,0⟩:ab)) cY c c fun b2=>O c<|M<|J c<|p (aZ c<|ji a0)<|aa<|aO (k:=0) (vs:=ab.C (⟨a0,0⟩:ab)) bL c c c c c c c<|O c<|ai<|bw (bR c (bC (k:=0) c cA c c)<|bY c) ⟨((⟨a0,0⟩:ab),true),c,H⟩
def aN (a0:Int):ab × Bool:=(((⟨a0,0⟩:ab),true))
theorem pr_plain_fails (a0:Int) {K:(ab × Bool)→Hp→Prop} {h:Hp} (k:K (aN a0) h):sh_plain_fails a0 K h:=(fun k=>k) k
theorem dH (a0:Int) (h:Hp):Ct Tryz.prog n_plain_fails #[(.int .i64 a0)] h fun v h'=>∃ r,v = bg r∧(r = aN a0∧h' = h):=sim_plain_fails a0 (pr_plain_fails a0 ⟨rfl,rfl⟩)
def sh_pred_Holds (a0:Int) (a1:Int) (a2:Int) (K:Bool→Hp→Prop):Hp→Prop:=br (a0 == 1) ( K (a1 == a2)) ( br (a0 == 2) ( K (a1 != a2)) ( br (a0 == 3) ( K (decide (a1 < a2))) ( br (a0 == 4) ( K (decide (a1 > a2))) ( K false))))
theorem sim_pred_Holds (a0:Int) (a1:Int) (a2:Int) {K:Bool→Hp→Prop} {h:Hp} (H:sh_pred_Holds a0 a1 a2 K h):Ct Tryz.prog n_pred_Holds #[(.int .i64 a0),(.int .u64 a1),(.int .u64 a2)] h fun v h'=>∃ r,v = aB r∧K r h':=aw [(.int .i64 a0),(.int .u64 a1),(.int .u64 a2)] Tryz.func132 c c c fun _=>M<|O c<|ak<|M<|J c<|ac<|ax<|M<|p (bM c c)<|O c<|av c H (fun k1 H2=>M<|J c<|J c<|p (bM c c)<|O c<|ai<|Y ⟨(a1 == a2),c,H2⟩) fun k1 H2=>M<|p (bM c c)<|O c<|av c H2 (fun k3 H4=>M<|J c<|J c<|p (pF c c)<|O c<|ai<|Y ⟨(a1 != a2),c,H4⟩) fun k3 H4=>M<|p (bM c c)<|O c<|av c H4 (fun k5 H6=>M<|J c<|J c<|p (ct c c)<|O c<|ai<|Y ⟨decide (a1 < a2),c,H6⟩) fun k5 H6=>M<|p (bM c c)<|O c<|av c H6 (fun k7 H8=>M<|J c<|J c<|p (qr c c)<|O c<|ai<|Y ⟨decide (a1 > a2),c,H8⟩) fun k7 H8=>an<|M<|O c<|ai<|Y ⟨false,c,H8⟩
def mL (a0:Int) (a1:Int) (a2:Int):Bool:=(bif (a0 == 1) then ((a1 == a2)) else (bif (a0 == 2) then ((a1 != a2)) else (bif (a0 == 3) then ((decide (a1 < a2))) else (bif (a0 == 4) then ((decide (a1 > a2))) else (false)))))
theorem pr_pred_Holds (a0:Int) (a1:Int) (a2:Int) {K:Bool→Hp→Prop} {h:Hp} (k:K (mL a0 a1 a2) h):sh_pred_Holds a0 a1 a2 K h:=(kg (K:=K) (fun k=>k) (kg (K:=K) (fun k=>k) (kg (K:=K) (fun k=>k) (kg (K:=K) (fun k=>k) (fun k=>k))))) k
theorem uO (a0:Int) (a1:Int) (a2:Int) (h:Hp):Ct Tryz.prog n_pred_Holds #[(.int .i64 a0),(.int .u64 a1),(.int .u64 a2)] h fun v h'=>∃ r,v = aB r∧(r = mL a0 a1 a2∧h' = h):=sim_pred_Holds a0 a1 a2 (pr_pred_Holds a0 a1 a2 ⟨rfl,rfl⟩)
def sh_judge_user (a0:au) (K:Bool→Hp→Prop):Hp→Prop:=K (bJ ((az a0.fCall).1))
theorem sim_judge_user (a0:au) {K:Bool→Hp→Prop} {h:Hp} (H:sh_judge_user a0 K h):Ct Tryz.prog n_judge_user #[(.agg (au.C a0).toArray)] h fun v h'=>∃ r,v = aB r∧K r h':=aw [(.agg (au.C a0).toArray)] Tryz.func120 c c c fun _=>M<|aa<|cJ (l:=au.C a0) c c c fun b1=>O c<|M<|p (ad mN c)<|bh (bB (k:=0) fh c c c c) c<|aa<|cH (vs:=[(.agg (ae.C a0.fCall).toArray)]) (bv<|ka a0.fCall _) en_64 c c<|J c<|p (aj c c)<|p (aj c c)<|p (ar c)<|O c<|M<|J c<|aa<|cH (vs:=[(.int .i64 ((az a0.fCall).1))]) (bv<|sd (az a0.fCall).1 _) en_65 c c<|O c<|ai<|Y ⟨bJ (az a0.fCall).1,c,H⟩
def fq (a0:au):Bool:=((bJ ((az a0.fCall).1)))
theorem pr_judge_user (a0:au) {K:Bool→Hp→Prop} {h:Hp} (k:K (fq a0) h):sh_judge_user a0 K h:=(fun k=>k) k
theorem ct_judge_user (a0:au) (h:Hp):Ct Tryz.prog n_judge_user #[(.agg (au.C a0).toArray)] h fun v h'=>∃ r,v = aB r∧(r = fq a0∧h' = h):=sim_judge_user a0 (pr_judge_user a0 ⟨rfl,rfl⟩)
end Go.Proofs.YtniiiakkdoiaiaaGreatDoor
namespace Go.Proofs.YtniiiakkdoiaiaaGreatDoor
open Go Mb
set_option linter.unusedVariables false
def sh_pool_New (a0:Int) (K:Ptr→Hp→Prop):Hp→Prop:=br ((decide (a0 < 1)) || (decide (a0 > 16))) ( K none) ( hpv Tryz.prog (Instr.makeSlice dF (.int .i64 a0) (.int .i64 a0)) cz fun (v10:Sl)=>nw qt (nQ.C (⟨v10⟩:nQ)) fun b12=>K (some (b12,0)))
theorem sim_pool_New (a0:Int) {K:Ptr→Hp→Prop} {h:Hp} (H:sh_pool_New a0 K h):Ct Tryz.prog wV #[(.int .i64 a0)] h fun v h'=>∃ r,v = sf r∧K r h':=aw [(.int .i64 a0)] Tryz.func91 c c c fun _=>M<|O c<|ak<|M<|J c<|p (ct c c)<|J c<|V c c (aM _) (fun g1=>wv<|ah c)<|V c c (aM _) (fun g2=>wv<|qr (aD c g2) c)<|p (dp c c)<|ac<|av c H (fun k3 H4=>M<|O c<|ai<|Y ⟨none,c,H4⟩) fun k3 H4=>an<|M<|J c<|aa<|aR H4 (jJ c c) c fun v10 _ H5=>p (aZ c<|build_183_0 v10)<|aa<|hG c c c H5 fun b12 _ H6=>O c<|ai<|Y ⟨some (b12,0),c,H6⟩
def tK (a0:Ptr) (K:(Int × Bool)→Hp→Prop):Hp→Prop:=br a0.isNone ( K (0,false)) ( nn a0 fun q8=>ld (q8.1,q8.2 + 0) cS fun x10=>cl Tryz.prog jV [(sv x10),(.int .i64 0)] eA fun r11=>br (decide (r11 < 0)) ( K (0,false)) ( ld (q8.1,q8.2 + 0) cS fun x17=>ix x17 r11 fun q19=>st (q19.1,q19.2 + Int.toNat r11 * 1) [.int .i64 1]<|K (r11,true)))
theorem sim_pool_Pool_Take (a0:Ptr) {K:(Int × Bool)→Hp→Prop} {h:Hp} (H:tK a0 K h):Ct Tryz.prog ju #[(pv a0)] h fun v h'=>∃ r,v = bK r∧K r h':=aw [(pv a0)] Tryz.func154 c c c fun _=>M<|p (ar c)<|O c<|ak<|M<|J c<|p (cm Tryz.underlying126 c)<|ac<|av c H (fun k1 H2=>M<|p (ar c)<|O c<|ai<|bw (bR c (bY c)<|bY c) ⟨(0,false),c,H2⟩) fun k1 H2=>an<|M<|J c<|bE H2 fun q8 e3 H4=>p (aI<|aL c<|ap e3)<|p (ad nN c)<|aa<|aV H4 sc_41 c (fun _=>c) c fun x10 H5=>aa<|Z H5 en_182 fun r11 _ H6=>O c<|ak<|M<|J c<|p (ct c c)<|ac<|av c H6 (fun k7 H8=>M<|p (ar c)<|O c<|ai<|bw (bR c (bY c)<|bY c) ⟨(0,false),c,H8⟩) fun k7 H8=>an<|M<|J (aL c<|ap e3)<|p (aI c)<|p (ad nN c)<|aa<|aV H8 sc_41 c (fun _=>c) c fun x17 H9=>J c<|cj H9 fun q19 e10 h11 H12=>p (bo hO (aL c<|ba e10) c h11)<|aa<|dw qM c c c c c H12 fun _ H13=>ac<|M<|J c<|p (ar c)<|O c<|ai<|bw (bR c (bY c)<|bY c) ⟨(r11,true),c,H13⟩
def tL (a0:Ptr) (a1:Int) (K:Int→Hp→Prop):Hp→Prop:=br (!(a0.isNone || (decide (a1 < 0)))) ( nn a0 fun q14=>ld (q14.1,q14.2 + 0) cS fun x16=>br (decide (a1 ≥ (x16.len:Int))) ( K 0) ( ld (q14.1,q14.2 + 0) cS fun x23=>ix x23 a1 fun q25=>ld (q25.1,q25.2 + Int.toNat a1 * 1) (cI .i64) fun x26=>K x26)) ( K 0)
theorem sim_pool_Pool_Refs (a0:Ptr) (a1:Int) {K:Int→Hp→Prop} {h:Hp} (H:tL a0 a1 K h):Ct Tryz.prog jv #[(pv a0),(.int .i64 a1)] h fun v h'=>∃ r,v = eA r∧K r h':=aw [(pv a0),(.int .i64 a1)] Tryz.func183 c c c fun _=>M<|O c<|ak<|M<|J c<|p (cm Tryz.underlying126 c)<|J c<|V c c (aM _) (fun g1=>wv<|ah c)<|V c c (aM _) (fun g2=>wv<|ct (aD c g2) c)<|p (dp c c)<|J c<|V c c (aM _) (fun g3=>wv<|ah c)<|V c c (aM _) (fun g4=>wv<|ah c)<|bT H (fun k6 H7=>bE H7 fun q14 e8 H9=>F (D<|cf k6)<|R (aI<|aL (aD c k6)<|ap e8)<|F (D<|cf k6)<|R (ad nN c)<|F (D<|cf k6)<|aV H9 sc_41 c (fun _=>c) c fun x16 H10=>F (D<|cf k6)<|R (dz c Tryz.underlying41 c)<|F (D<|cf k6)<|R (jH (aD c k6) c)<|p (aq c (cf k6) c)<|ac<|av c H10 (fun k11 H12=>M<|O c<|ai<|Y ⟨0,c,H12⟩) fun k11 H12=>an<|M<|J (aL c<|ap e8)<|p (aI c)<|p (ad nN c)<|aa<|aV H12 sc_41 c (fun _=>c) c fun x23 H13=>J c<|cj H13 fun q25 e14 h15 H16=>p (bo hO (aL c<|ba e14) c h15)<|aa<|aV H16 aY c (fun _=>c) c fun x26 H17=>O c<|ai<|Y ⟨x26,c,H17⟩) fun k6 H7=>W (cc<|bH k6)<|W (cc<|bH k6)<|W (cc<|bH k6)<|W (cc<|bH k6)<|W (cc<|bH k6)<|p (aT c (bH k6) c)<|ac<|mu c c<|M<|O c<|ai<|Y ⟨0,c,H7⟩
def tM (a0:Ptr) (a1:Int) (K:Bool→Hp→Prop):Hp→Prop:=cl Tryz.prog jv [(pv a0),(.int .i64 a1)] eA fun r8=>br ((r8 == 0) || (decide (r8 ≥ 7))) ( K false) ( nn a0 fun q16=>ld (q16.1,q16.2 + 0) cS fun x18=>ix x18 a1 fun q20=>ld (q20.1,q20.2 + Int.toNat a1 * 1) (cI .i64) fun x21=>st (q20.1,q20.2 + Int.toNat a1 * 1) [.int .i64 (IntKind.i64.wrap (x21 + 1))]<|K true)
theorem sim_pool_Pool_Hold (a0:Ptr) (a1:Int) {K:Bool→Hp→Prop} {h:Hp} (H:tM a0 a1 K h):Ct Tryz.prog lM #[(pv a0),(.int .i64 a1)] h fun v h'=>∃ r,v = aB r∧K r h':=aw [(pv a0),(.int .i64 a1)] Tryz.func156 c c c fun _=>M<|O c<|ak<|M<|J c<|J c<|aa<|Z H en_183 fun r8 _ H1=>O c<|M<|J c<|p (bM c c)<|J c<|V c c (aM _) (fun g2=>wv<|ah c)<|V c c (aM _) (fun g3=>wv<|jH (aD c g3) c)<|p (dp c c)<|ac<|av c H1 (fun k4 H5=>M<|O c<|ai<|Y ⟨false,c,H5⟩) fun k4 H5=>an<|M<|J c<|bE H5 fun q16 e6 H7=>p (aI<|aL c<|ap e6)<|p (ad nN c)<|aa<|aV H7 sc_41 c (fun _=>c) c fun x18 H8=>J c<|cj H8 fun q20 e9 h10 H11=>p (bo hO (aL c<|ba e9) c h10)<|aa<|aV H11 aY c (fun _=>c) c fun x21 H12=>p (bp c c)<|p (bo hO (aL c<|ba e9) c h10)<|aa<|dw qM c c c c c H12 fun _ H13=>ac<|M<|O c<|ai<|Y ⟨true,c,H13⟩
def vb (a0:Ptr) (a1:Int) (K:(Int × Bool)→Hp→Prop):Hp→Prop:=cl Tryz.prog jv [(pv a0),(.int .i64 a1)] eA fun r8=>br (r8 == 0) ( K (0,false)) ( nn a0 fun q11=>ld (q11.1,q11.2 + 0) cS fun x13=>ix x13 a1 fun q15=>ld (q15.1,q15.2 + Int.toNat a1 * 1) (cI .i64) fun x16=>st (q15.1,q15.2 + Int.toNat a1 * 1) [.int .i64 (IntKind.i64.wrap (x16 - 1))]<|ld (q11.1,q11.2 + 0) cS fun x22=>ix x22 a1 fun q24=>ld (q24.1,q24.2 + Int.toNat a1 * 1) (cI .i64) fun x25=>K (x25,true))
theorem sim_pool_Pool_Let (a0:Ptr) (a1:Int) {K:(Int × Bool)→Hp→Prop} {h:Hp} (H:vb a0 a1 K h):Ct Tryz.prog mV #[(pv a0),(.int .i64 a1)] h fun v h'=>∃ r,v = bK r∧K r h':=aw [(pv a0),(.int .i64 a1)] Tryz.func160 c c c fun _=>M<|p (ar c)<|O c<|ak<|M<|J c<|J c<|aa<|Z H en_183 fun r8 _ H1=>p (bM c c)<|ac<|av c H1 (fun k2 H3=>M<|p (ar c)<|O c<|ai<|bw (bR c (bY c)<|bY c) ⟨(0,false),c,H3⟩) fun k2 H3=>an<|M<|J c<|bE H3 fun q11 e4 H5=>p (aI<|aL c<|ap e4)<|p (ad nN c)<|aa<|aV H5 sc_41 c (fun _=>c) c fun x13 H6=>J c<|cj H6 fun q15 e7 h8 H9=>p (bo hO (aL c<|ba e7) c h8)<|aa<|aV H9 aY c (fun _=>c) c fun x16 H10=>p (v_sub c c)<|p (bo hO (aL c<|ba e7) c h8)<|aa<|dw qM c c c c c H10 fun _ H11=>ac<|M<|J (aL c<|ap e4)<|p (aI c)<|p (ad nN c)<|aa<|aV H11 sc_41 c (fun _=>c) c fun x22 H12=>J c<|cj H12 fun q24 e13 h14 H15=>p (bo hO (aL c<|ba e13) c h14)<|aa<|aV H15 aY c (fun _=>c) c fun x25 H16=>p (ar c)<|O c<|ai<|bw (bR c (bY c)<|bY c) ⟨(x25,true),c,H16⟩
def oA (K:Sl→Hp→Prop) (x11:Sl) (Rec7:(Sl × Int)→Hp→Prop) (s6:Sl × Int):Hp→Prop:=br (decide (s6.2 < (x11.len:Int))) ( ix x11 s6.2 fun q16=>ld (q16.1,q16.2 + Int.toNat s6.2 * 1) (cI .i64) fun x17=>br (x17 == 0) ( hpv Tryz.prog (Instr.buildSlice dF 1 #[(0,(.int .i64 s6.2))]) cz fun (v22:Sl)=>hpv Tryz.prog (Builtin.append_ #[dF,dF] dF #[(sv s6.1),(sv v22)]) cz fun (v23:Sl)=>Rec7 (v23,(IntKind.i64.wrap (s6.2 + 1)))) ( Rec7 (s6.1,(IntKind.i64.wrap (s6.2 + 1))))) ( K s6.1)
def tN (a0:Ptr) (K:Sl→Hp→Prop):Hp→Prop:=br a0.isNone ( K (⟨none,0,0,none⟩:Sl)) ( nn a0 fun q9=>ld (q9.1,q9.2 + 0) cS fun x11=>Lp (oA K x11) ((⟨none,0,0,none⟩:Sl),0))
theorem sim_pool_Pool_Free (a0:Ptr) {K:Sl→Hp→Prop} {h:Hp} (H:tN a0 K h):Ct Tryz.prog lN #[(pv a0)] h fun v h'=>∃ r,v = cz r∧K r h':=aw [(pv a0)] Tryz.func125 c c c fun _=>M<|O c<|ak<|M<|J c<|p (cm Tryz.underlying126 c)<|ac<|av c H (fun k1 H2=>M<|O c<|ai<|Y ⟨(⟨none,0,0,none⟩:Sl),c,H2⟩) fun k1 H2=>an<|M<|O c<|ak<|M<|J c<|bE H2 fun q9 e3 H4=>p (aI<|aL c<|ap e3)<|p (ad nN c)<|aa<|aV H4 sc_41 c (fun _=>c) c fun x11 H5=>p (dz c Tryz.underlying41 c)<|J c<|ac<|ax<|bD (step:=oA K x11) (fun s6=>[(3,(sv s6.1)),(11,(sv x11)),(12,(.int .i64 (x11.len:Int))),(13,(.int .i64 s6.2))]) (fun s6=>[]) H5 (.cons c<|.cons c<|.cons c<|.cons c<|.nil _) .slnil fun Rec7 s6 _ H8=>M<|p (ct c c)<|ac<|ak<|av c H8 (fun k9 H10=>an<|ak<|ax<|M<|J c<|cj H10 fun q16 e11 h12 H13=>p (bo hO (aL c<|ba e11) c h12)<|aa<|aV H13 aY c (fun _=>c) c fun x17 H14=>p (ar c)<|O c<|M<|J c<|p (bM c c)<|ac<|av c H14 (fun k15 H16=>ao<|J c<|J c<|aa<|aR H16 (bu (vs:=[(.int .i64 s6.2)]) c) c fun v22 _ H17=>aa<|aR H17 (dE c c) c fun v23 _ H18=>O c<|ao<|p (bp c c)<|J c<|ac<|cK (v23,(IntKind.i64.wrap (s6.2 + 1))) H18 (.cons c<|.cons c<|.cons c<|.cons c<|.nil _) .slnil) fun k15 H16=>an<|ao<|p (bp c c)<|J c<|ac<|cK (s6.1,(IntKind.i64.wrap (s6.2 + 1))) H16 (.cons c<|.cons c<|.cons c<|.cons c<|.nil _) .slnil) fun k9 H10=>bi<|M<|J c<|O c<|ai<|Y ⟨s6.1,c,H10⟩
def oB (K:Int→Hp→Prop) (r7:Sl) (Rec3:(Int × Int)→Hp→Prop) (s2:Int × Int):Hp→Prop:=br (decide (s2.2 < (r7.len:Int))) ( ix r7 s2.2 fun q11=>ld (q11.1,q11.2 + Int.toNat s2.2 * 1) (cI .i64) fun x12=>gd (0 ≤ x12)<|Rec3 ((ior .u64 s2.1 (IntKind.u64.wrap (1 * 2 ^ (min (Int.toNat x12) (IntKind.bits .u64))))),(IntKind.i64.wrap (s2.2 + 1)))) ( K s2.1)
def tO (a0:Ptr) (K:Int→Hp→Prop):Hp→Prop:=cl Tryz.prog lN [(pv a0)] cz fun r7=>Lp (oB K r7) (0,0)
theorem sim_pool_Pool_Bits (a0:Ptr) {K:Int→Hp→Prop} {h:Hp} (H:tO a0 K h):Ct Tryz.prog pR #[(pv a0)] h fun v h'=>∃ r,v = gI r∧K r h':=aw [(pv a0)] Tryz.func198 c c c fun _=>M<|O c<|M<|O c<|ak<|M<|J c<|aa<|Z H en_125 fun r7 _ H1=>p (dz c Tryz.underlying41 c)<|J c<|ac<|ax<|bD (step:=oB K r7) (fun s2=>[(3,(.int .u64 s2.1)),(7,(sv r7)),(8,(.int .i64 (r7.len:Int))),(9,(.int .i64 s2.2))]) (fun s2=>[]) H1 (.cons c<|.cons c<|.cons c<|.cons c<|.nil _) .slnil fun Rec3 s2 _ H4=>M<|p (ct c c)<|ac<|ak<|av c H4 (fun k5 H6=>an<|ak<|ax<|M<|cj H6 fun q11 e7 h8 H9=>p (bo hO (aL c<|ba e7) c h8)<|aa<|aV H9 aY c (fun _=>c) c fun x12 H10=>O c<|ao<|J c<|J c<|iA H10 fun z11 H12=>p (v_shl c c z11)<|p (v_ior c c)<|O c<|ao<|p (bp c c)<|J c<|ac<|cK ((ior .u64 s2.1 (IntKind.u64.wrap (1 * 2 ^ (min (Int.toNat x12) (IntKind.bits .u64))))),(IntKind.i64.wrap (s2.2 + 1))) H12 (.cons c<|.cons c<|.cons c<|.cons c<|.nil _) .slnil) fun k5 H6=>bi<|M<|J c<|O c<|ai<|Y ⟨s2.1,c,H6⟩
end Go.Proofs.YtniiiakkdoiaiaaGreatDoor
