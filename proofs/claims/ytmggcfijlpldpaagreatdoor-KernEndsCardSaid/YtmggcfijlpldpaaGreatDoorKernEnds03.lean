/- Part of the proof of: The law KernEnds returns true for every input, and leaves its arguments as they were. -/
import Derived.Test.YtmggcfijlpldpaaGreatDoorKernEnds02
set_option linter.all false
set_option maxRecDepth 20000
namespace Go.Proofs.YtmggcfijlpldpaaGreatDoor
open Go Mb
set_option linter.unusedVariables false
structure ah where
  e0:Int
  e1:Int
  e2:Int
  e3:Int
  e4:Int
def ah.C (x:ah):List Value:=[.int .u64 x.e0,.int .u64 x.e1,.int .u64 x.e2,.int .u64 x.e3,.int .u64 x.e4]
structure ac where
  fErr:Int
  fVal:Int
def ac.C (x:ac):List Value:=[.int .i64 x.fErr,.int .u64 x.fVal]
structure am where
  fEnv:Int
  fPage:Int
  fFrame:Int
  fRights:Int
def am.C (x:am):List Value:=[.int .i64 x.fEnv,.int .i64 x.fPage,.int .i64 x.fFrame,.int .i64 x.fRights]
structure aC where
  fCore:Int
  fEnv:Int
  fCall:ah
  fBegin:Int
  fEffect:Int
  fEnd:Int
  fAnswer:ac
  fLine:am
def aC.C (x:aC):List Value:=[.int .i64 x.fCore,.int .i64 x.fEnv,.int .u64 x.fCall.e0,.int .u64 x.fCall.e1,.int .u64 x.fCall.e2,.int .u64 x.fCall.e3,.int .u64 x.fCall.e4,.int .i64 x.fBegin,.int .i64 x.fEffect,.int .i64 x.fEnd,.int .i64 x.fAnswer.fErr,.int .u64 x.fAnswer.fVal,.int .i64 x.fLine.fEnv,.int .i64 x.fLine.fPage,.int .i64 x.fLine.fFrame,.int .i64 x.fLine.fRights]
structure lG where
  fat:Int
  fenv:Int
  fc:ah
  ftold:Bool
  fepoch:Int
def lG.C (x:lG):List Value:=[.int .i64 x.fat,.int .i64 x.fenv,.int .u64 x.fc.e0,.int .u64 x.fc.e1,.int .u64 x.fc.e2,.int .u64 x.fc.e3,.int .u64 x.fc.e4,.bool x.ftold,.int .u64 x.fepoch]
structure al where
  fFrame:Int
  fSlot:Int
  fRights:Int
def al.C (x:al):List Value:=[.int .i64 x.fFrame,.int .i64 x.fSlot,.int .i64 x.fRights]
structure az where
  fFrame:Int
  fRights:Int
  fEnv:Int
  fSlot:Int
def az.C (x:az):List Value:=[.int .i64 x.fFrame,.int .i64 x.fRights,.int .i64 x.fEnv,.int .i64 x.fSlot]
structure ck where
  fl:am
  fwhen:Int
def ck.C (x:ck):List Value:=[.int .i64 x.fl.fEnv,.int .i64 x.fl.fPage,.int .i64 x.fl.fFrame,.int .i64 x.fl.fRights,.int .i64 x.fwhen]
structure jd where
  e0:ck
  e1:ck
def jd.C (x:jd):List Value:=[.int .i64 x.e0.fl.fEnv,.int .i64 x.e0.fl.fPage,.int .i64 x.e0.fl.fFrame,.int .i64 x.e0.fl.fRights,.int .i64 x.e0.fwhen,.int .i64 x.e1.fl.fEnv,.int .i64 x.e1.fl.fPage,.int .i64 x.e1.fl.fFrame,.int .i64 x.e1.fl.fRights,.int .i64 x.e1.fwhen]
structure aF where
  fEnv:Int
  fSlot:Int
def aF.C (x:aF):List Value:=[.int .i64 x.fEnv,.int .i64 x.fSlot]
structure aw where
  fCores:Int
  fEnvs:Int
  fFrames:Int
def aw.C (x:aw):List Value:=[.int .i64 x.fCores,.int .i64 x.fEnvs,.int .i64 x.fFrames]
structure sF where
  fl:Sl
def sF.C (x:sF):List Value:=[sv x.fl]
structure nU where
  frefs:Sl
def nU.C (x:nU):List Value:=[sv x.frefs]
structure nX where
  fl:Sl
def nX.C (x:nX):List Value:=[sv x.fl]
structure gf where
  fs:aw
  fm:Ptr
  ftables:Sl
  fpool:Ptr
  fcaps:Ptr
def gf.C (x:gf):List Value:=[.int .i64 x.fs.fCores,.int .i64 x.fs.fEnvs,.int .i64 x.fs.fFrames,pv x.fm,sv x.ftables,pv x.fpool,pv x.fcaps]
structure kw where
  fes:Sl
  fs:aw
  fk:Ptr
def kw.C (x:kw):List Value:=[sv x.fes,.int .i64 x.fs.fCores,.int .i64 x.fs.fEnvs,.int .i64 x.fs.fFrames,pv x.fk]
structure nV where
  fl:Sl
def nV.C (x:nV):List Value:=[sv x.fl]
structure jF where
  fowner:Sl
  fheard:Sl
def jF.C (x:jF):List Value:=[sv x.fowner,sv x.fheard]
structure fD where
  fp:Ptr
  fenvs:Int
  ftlbs:Sl
  fboxes:Ptr
  fepochs:Ptr
  fcalls:Sl
  fevents:Sl
  fnow:Int
def fD.C (x:fD):List Value:=[pv x.fp,.int .i64 x.fenvs,sv x.ftlbs,pv x.fboxes,pv x.fepochs,sv x.fcalls,sv x.fevents,.int .i64 x.fnow]
structure ch where
  fKind:Int
  fCore:Int
  fEnv:Int
  fCall:ah
  fSet:Int
  fWay:Int
def ch.C (x:ch):List Value:=[.int .i64 x.fKind,.int .i64 x.fCore,.int .i64 x.fEnv,.int .u64 x.fCall.e0,.int .u64 x.fCall.e1,.int .u64 x.fCall.e2,.int .u64 x.fCall.e3,.int .u64 x.fCall.e4,.int .i64 x.fSet,.int .i64 x.fWay]
structure bY where
  fCode:Int
  fEnv:Int
  fCall:ah
  fErr:Value
def bY.C (x:bY):List Value:=[.int .i64 x.fCode,.int .i64 x.fEnv,.int .u64 x.fCall.e0,.int .u64 x.fCall.e1,.int .u64 x.fCall.e2,.int .u64 x.fCall.e3,.int .u64 x.fCall.e4,x.fErr]
structure aJ where
  ftyp_:Ptr
  fptr:Ptr
  fflag:Int
def aJ.C (x:aJ):List Value:=[pv x.ftyp_,pv x.fptr,.int .u64 x.fflag]
structure nW where
  fv:Int
  fn:Int
def nW.C (x:nW):List Value:=[.int .u64 x.fv,.int .i64 x.fn]
structure kv where
  fdrawn:Ptr
  fpassed:Ptr
def kv.C (x:kv):List Value:=[pv x.fdrawn,pv x.fpassed]
structure qU where
  fIs:Bool
  fFrame:Int
  fRights:Int
  fEnv:Int
  fSlot:Int
def qU.C (x:qU):List Value:=[.bool x.fIs,.int .i64 x.fFrame,.int .i64 x.fRights,.int .i64 x.fEnv,.int .i64 x.fSlot]
structure iu where
  fEnv:Int
  fSlot:Int
def iu.C (x:iu):List Value:=[.int .i64 x.fEnv,.int .i64 x.fSlot]
def eA (r:Sl):Value:=(sv r)
abbrev eN:Nat:=43
abbrev eQ:Nat:=47
theorem fld_89_6:Fld Tryz.prog 89 6 6:=bU (m:=1) Tryz.underlying89 rfl rfl (by kernel_rfl) (by decide)
theorem en_47:aK Tryz.prog 47:=⟨_,Tryz.func47,by decide,rfl⟩
theorem sc_43:Sc Tryz.prog 43:=⟨⟨_,Tryz.underlying43,rfl⟩,bI (by kernel_rfl)⟩
abbrev fO:Nat:=20
def aA (r:Bool):Value:=(.bool r)
theorem tu:Fld Tryz.prog 89 5 5:=bU (m:=1) Tryz.underlying89 rfl rfl (by kernel_rfl) (by decide)
theorem sc_87:Sc Tryz.prog 87:=⟨⟨_,Tryz.underlying87,rfl⟩,bI (by kernel_rfl)⟩
abbrev ib:Nat:=52
theorem slc_87:Slc Tryz.prog 87 96 1:=⟨Tryz.underlying87,bI (by kernel_rfl)⟩
theorem sc_96:Sc Tryz.prog 96:=⟨⟨_,Tryz.underlying96,rfl⟩,bI (by kernel_rfl)⟩
theorem en_52:aK Tryz.prog 52:=⟨_,Tryz.func52,by decide,rfl⟩
abbrev fP:Nat:=26
theorem fld_89_1:Fld Tryz.prog 89 1 1:=bU (m:=1) Tryz.underlying89 rfl rfl (by kernel_rfl) (by decide)
theorem ly:Fld Tryz.prog 89 7 7:=bU (m:=1) Tryz.underlying89 rfl rfl (by kernel_rfl) (by decide)
theorem cm:Tryz.prog.follows .mixedOrders = true:=by kernel_rfl
theorem ff:Ag Tryz.prog 34 5:=⟨⟨_,Tryz.underlying34,rfl⟩,bI (by kernel_rfl)⟩
theorem build_54_0_1_2_3 (y0:Int) (y1:Int) (y2:ah) (y3:Int):∀ w,(Instr.build 54 #[(0,(.int .i64 y0)),(1,(.int .i64 y1)),(2,(.agg (ah.C y2).toArray)),(3,(.int .i64 y3))]).run Tryz.prog w = .ok (.agg (aC.C (⟨y0,y1,y2,y3,0,0,(⟨0,0⟩:ac),(⟨0,0,0,0⟩:am)⟩:aC)).toArray) w:=fun _=>by kernel_rfl
theorem build_98_0_1_2 (y0:Int) (y1:Int) (y2:ah):∀ w,(Instr.build 98 #[(0,(.int .i64 y0)),(1,(.int .i64 y1)),(2,(.agg (ah.C y2).toArray))]).run Tryz.prog w = .ok (.agg (lG.C (⟨y0,y1,y2,false,0⟩:lG)).toArray) w:=fun _=>by kernel_rfl
theorem inf_96:∃ i,Tryz.prog.info? 96 = some i∧i.size = 1:=bI (by kernel_rfl)
abbrev cQ:Nat:=98
theorem inf_43:∃ i,Tryz.prog.info? 43 = some i∧i.size = 1:=bI (by kernel_rfl)
theorem aY:Sc Tryz.prog 3:=⟨⟨_,Tryz.underlying3,rfl⟩,bI (by kernel_rfl)⟩
theorem pH:∃ i,Tryz.prog.info? 3 = some i∧i.size = 1:=bI (by kernel_rfl)
theorem en_26:aK Tryz.prog 26:=⟨_,Tryz.func26,by decide,rfl⟩
abbrev kQ:Nat:=22
def bK (r:Int × Bool):Value:=.tuple #[(.int .i64 r.1),(.bool r.2)]
theorem da:Arr Tryz.prog 34 5 22 1:=⟨Tryz.underlying34,bI (by kernel_rfl)⟩
theorem ct:Sc Tryz.prog 22:=⟨⟨_,Tryz.underlying22,rfl⟩,bI (by kernel_rfl)⟩
abbrev n_word_Kind:Nat:=53
abbrev n_word_User:Nat:=54
def ip (r:Ptr):Value:=(pv r)
abbrev kl:Nat:=211
abbrev lg:Nat:=96
def cA (r:Sl):Value:=(sv r)
abbrev dH:Nat:=40
abbrev rZ:Nat:=147
def ah.get (x:ah) (i:Int):Int:=match i.toNat with | 0=>x.e0 | 1=>x.e1 | 2=>x.e2 | 3=>x.e3 | 4=>x.e4 | _=>x.e4
theorem at_34 (x:ah) (i:Int) (h:0 ≤ i∧i < 5):(ah.C x)[0 + i.toNat * 1]? = some (.int .u64 (ah.get x i)):=by
  obtain ⟨n,rfl⟩:=Int.eq_ofNat_of_zero_le h.1
  have h2:n < 5:=by omega
  rcases n with _ | (_ | (_ | (_ | (_ | _)))) <;> first | rfl | omega
abbrev nh:Nat:=155
abbrev n_word_Rights:Nat:=186
theorem en_155:aK Tryz.prog 155:=⟨_,Tryz.func155,by decide,rfl⟩
theorem en_186:aK Tryz.prog 186:=⟨_,Tryz.func186,by decide,rfl⟩
abbrev n_word_fits:Nat:=148
def bg (r:Int):Value:=(.int .i64 r)
theorem iA:Slc Tryz.prog 40 3 1:=⟨Tryz.underlying40,bI (by kernel_rfl)⟩
theorem en_148:aK Tryz.prog 148:=⟨_,Tryz.func148,by decide,rfl⟩
theorem en_147:aK Tryz.prog 147:=⟨_,Tryz.func147,by decide,rfl⟩
theorem en_53:aK Tryz.prog 53:=⟨_,Tryz.func53,by decide,rfl⟩
abbrev gM:Nat:=98
theorem vV:Fld Tryz.prog 149 0 0:=bU (m:=3) Tryz.underlying149 rfl rfl (by kernel_rfl) (by decide)
theorem lA:Fld Tryz.prog 27 1 1:=bU (m:=1) Tryz.underlying27 rfl rfl (by kernel_rfl) (by decide)
abbrev jU:Nat:=112
abbrev n_table_is:Nat:=150
def cz (r:al × Bool):Value:=.tuple #[(.agg (al.C r.1).toArray),(.bool r.2)]
theorem eK:∃ i,Tryz.prog.info? 121 = some i∧i.zero = some (.agg (al.C (⟨0,0,0⟩:al)).toArray):=kJ (by kernel_rfl)
theorem kr  : ∀ w,(Instr.build 121 #[]).run Tryz.prog w = .ok (.agg (al.C (⟨0,0,0⟩:al)).toArray) w:=fun _=>by kernel_rfl
theorem dK:Ag Tryz.prog 121 3:=⟨⟨_,Tryz.underlying121,rfl⟩,bI (by kernel_rfl)⟩
theorem cZ:∃ i,Tryz.prog.info? 121 = some i∧i.size = 3:=bI (by kernel_rfl)
theorem kq:Fld Tryz.prog 211 0 0:=bU (m:=24) Tryz.underlying211 rfl rfl (by kernel_rfl) (by decide)
theorem so:Arr Tryz.prog 122 8 121 3:=⟨Tryz.underlying122,bI (by kernel_rfl)⟩
theorem dN:Fld Tryz.prog 121 2 2:=bU (m:=1) Tryz.underlying121 rfl rfl (by kernel_rfl) (by decide)
theorem en_150:aK Tryz.prog 150:=⟨_,Tryz.func150,by decide,rfl⟩
abbrev eT:Nat:=153
theorem eX:Fld Tryz.prog 149 2 4:=bU (m:=1) Tryz.underlying149 rfl rfl (by kernel_rfl) (by decide)
theorem mT:Slc Tryz.prog 145 153 1:=⟨Tryz.underlying145,bI (by kernel_rfl)⟩
theorem en_153:aK Tryz.prog 153:=⟨_,Tryz.func153,by decide,rfl⟩
theorem rd:Sc Tryz.prog 153:=⟨⟨_,Tryz.underlying153,rfl⟩,bI (by kernel_rfl)⟩
theorem mv:Sc Tryz.prog 145:=⟨⟨_,Tryz.underlying145,rfl⟩,bI (by kernel_rfl)⟩
theorem en_112:aK Tryz.prog 112:=⟨_,Tryz.func112,by decide,rfl⟩
abbrev fN:Nat:=103
theorem gX:Fld Tryz.prog 205 0 0:=bU (m:=1) Tryz.underlying205 rfl rfl (by kernel_rfl) (by decide)
theorem pV:Sc Tryz.prog 203:=⟨⟨_,Tryz.underlying203,rfl⟩,bI (by kernel_rfl)⟩
abbrev ic:Nat:=145
def cN (r:az × Bool):Value:=.tuple #[(.agg (az.C r.1).toArray),(.bool r.2)]
theorem iq:∃ i,Tryz.prog.info? 37 = some i∧i.zero = some (.agg (az.C (⟨0,0,0,0⟩:az)).toArray):=kJ (by kernel_rfl)
theorem build_37  : ∀ w,(Instr.build 37 #[]).run Tryz.prog w = .ok (.agg (az.C (⟨0,0,0,0⟩:az)).toArray) w:=fun _=>by kernel_rfl
theorem ag_37:Ag Tryz.prog 37 4:=⟨⟨_,Tryz.underlying37,rfl⟩,bI (by kernel_rfl)⟩
theorem gy:∃ i,Tryz.prog.info? 37 = some i∧i.size = 4:=bI (by kernel_rfl)
theorem oo:Slc Tryz.prog 203 202 32:=⟨Tryz.underlying203,bI (by kernel_rfl)⟩
theorem qp:Arr Tryz.prog 202 8 37 4:=⟨Tryz.underlying202,bI (by kernel_rfl)⟩
theorem gI:Fld Tryz.prog 37 1 1:=bU (m:=1) Tryz.underlying37 rfl rfl (by kernel_rfl) (by decide)
theorem en_145:aK Tryz.prog 145:=⟨_,Tryz.func145,by decide,rfl⟩
abbrev ee:Nat:=91
theorem fz:Fld Tryz.prog 149 4 6:=bU (m:=1) Tryz.underlying149 rfl rfl (by kernel_rfl) (by decide)
theorem en_91:aK Tryz.prog 91:=⟨_,Tryz.func91,by decide,rfl⟩
theorem hO:Sc Tryz.prog 147:=⟨⟨_,Tryz.underlying147,rfl⟩,bI (by kernel_rfl)⟩
abbrev hZ:Nat:=45
abbrev n_pte_May:Nat:=161
theorem en_161:aK Tryz.prog 161:=⟨_,Tryz.func161,by decide,rfl⟩
abbrev n_pte_Within:Nat:=106
theorem gb:Fld Tryz.prog 98 2 2:=bU (m:=5) Tryz.underlying98 rfl rfl (by kernel_rfl) (by decide)
theorem qQ:Fld Tryz.prog 89 0 0:=bU (m:=1) Tryz.underlying89 rfl rfl (by kernel_rfl) (by decide)
theorem qS:Fld Tryz.prog 37 2 2:=bU (m:=1) Tryz.underlying37 rfl rfl (by kernel_rfl) (by decide)
theorem fld_37_3:Fld Tryz.prog 37 3 3:=bU (m:=1) Tryz.underlying37 rfl rfl (by kernel_rfl) (by decide)
theorem en_45:aK Tryz.prog 45:=⟨_,Tryz.func45,by decide,rfl⟩
theorem vC:Sc Tryz.prog 83:=⟨⟨_,Tryz.underlying83,rfl⟩,bI (by kernel_rfl)⟩
abbrev fJ:Nat:=37
theorem vO:Fld Tryz.prog 98 1 1:=bU (m:=1) Tryz.underlying98 rfl rfl (by kernel_rfl) (by decide)
abbrev pY:Nat:=160
def wg (r:al):Value:=(.agg (al.C r).toArray)
theorem qd:Fld Tryz.prog 121 1 1:=bU (m:=1) Tryz.underlying121 rfl rfl (by kernel_rfl) (by decide)
theorem mD:aK Tryz.prog 106:=⟨_,Tryz.func106,by decide,rfl⟩
theorem en_160:aK Tryz.prog 160:=⟨_,Tryz.func160,by decide,rfl⟩
abbrev lT:Nat:=104
theorem en_104:aK Tryz.prog 104:=⟨_,Tryz.func104,by decide,rfl⟩
theorem fld_98_3:Fld Tryz.prog 98 3 7:=bU (m:=1) Tryz.underlying98 rfl rfl (by kernel_rfl) (by decide)
theorem sc_4:Sc Tryz.prog 4:=⟨⟨_,Tryz.underlying4,rfl⟩,bI (by kernel_rfl)⟩
theorem en_103:aK Tryz.prog 103:=⟨_,Tryz.func103,by decide,rfl⟩
abbrev lS:Nat:=99
def bJ (r:Int × Bool):Value:=.tuple #[(.int .u64 r.1),(.bool r.2)]
def al.eqb (x y:al):Bool:=((x.fFrame == y.fFrame) && ((x.fSlot == y.fSlot) && ((x.fRights == y.fRights) && true)))
theorem eqr_121 (n:Nat) (x y:al):EqR Tryz.prog (n + 2) 121 (.agg (al.C x).toArray) (.agg (al.C y).toArray) (al.eqb x y):=xr Tryz.underlying121 (by kernel_rfl) (lC (by decide) (gS aY rfl) (gS aY rfl) (jo (n:=n + 0) Tryz.underlying3) (lC (by decide) (gS aY rfl) (gS aY rfl) (jo (n:=n + 0) Tryz.underlying3) (lC (by decide) (gS aY rfl) (gS aY rfl) (jo (n:=n + 0) Tryz.underlying3) eqf_nil)))
theorem eqg_121:Tryz.prog.eqGuardType Tryz.prog.depth 121 = false:=by kernel_rfl
theorem nT:Fld Tryz.prog 121 0 0:=bU (m:=1) Tryz.underlying121 rfl rfl (by kernel_rfl) (by decide)
abbrev n_pte_Put:Nat:=149
theorem en_149:aK Tryz.prog 149:=⟨_,Tryz.func149,by decide,rfl⟩
abbrev dZ:Nat:=100
def R_api_Line (r:am):Value:=(.agg (am.C r).toArray)
theorem kK:∃ i,Tryz.prog.info? 52 = some i∧i.zero = some (.agg (am.C (⟨0,0,0,0⟩:am)).toArray):=kJ (by kernel_rfl)
theorem build_52_0 (y0:Int):∀ w,(Instr.build 52 #[(0,(.int .i64 y0))]).run Tryz.prog w = .ok (.agg (am.C (⟨y0,0,0,0⟩:am)).toArray) w:=fun _=>by kernel_rfl
theorem gU:Ag Tryz.prog 52 4:=⟨⟨_,Tryz.underlying52,rfl⟩,bI (by kernel_rfl)⟩
theorem fw:∃ i,Tryz.prog.info? 52 = some i∧i.size = 4:=bI (by kernel_rfl)
abbrev n_tlb_empty:Nat:=146
def jM (r:Ptr):Value:=(pv r)
theorem sE:Fld Tryz.prog 166 0 0:=bU (m:=40) Tryz.underlying166 rfl rfl (by kernel_rfl) (by decide)
theorem arr_164:Arr Tryz.prog 164 4 163 10:=⟨Tryz.underlying164,bI (by kernel_rfl)⟩
theorem arr_163:Arr Tryz.prog 163 2 162 5:=⟨Tryz.underlying163,bI (by kernel_rfl)⟩
theorem ma:Fld Tryz.prog 162 0 0:=bU (m:=4) Tryz.underlying162 rfl rfl (by kernel_rfl) (by decide)
theorem jA:Fld Tryz.prog 52 0 0:=bU (m:=1) Tryz.underlying52 rfl rfl (by kernel_rfl) (by decide)
theorem mR:Fld Tryz.prog 52 1 1:=bU (m:=1) Tryz.underlying52 rfl rfl (by kernel_rfl) (by decide)
abbrev oG:Nat:=162
theorem en_146:aK Tryz.prog 146:=⟨_,Tryz.func146,by decide,rfl⟩
theorem en_162:aK Tryz.prog 162:=⟨_,Tryz.func162,by decide,rfl⟩
abbrev mV:Nat:=107
def fE (r:am × Bool):Value:=.tuple #[(.agg (am.C r.1).toArray),(.bool r.2)]
theorem lF  : ∀ w,(Instr.build 52 #[]).run Tryz.prog w = .ok (.agg (am.C (⟨0,0,0,0⟩:am)).toArray) w:=fun _=>by kernel_rfl
abbrev oH:Nat:=151
abbrev n_pte_Lets:Nat:=152
theorem fld_162_1:Fld Tryz.prog 162 1 4:=bU (m:=1) Tryz.underlying162 rfl rfl (by kernel_rfl) (by decide)
abbrev tg:Nat:=187
theorem lz:Fld Tryz.prog 52 2 2:=bU (m:=1) Tryz.underlying52 rfl rfl (by kernel_rfl) (by decide)
theorem qR:Fld Tryz.prog 52 3 3:=bU (m:=1) Tryz.underlying52 rfl rfl (by kernel_rfl) (by decide)
theorem fld_166_1:Fld Tryz.prog 166 1 40:=bU (m:=1) Tryz.underlying166 rfl rfl (by kernel_rfl) (by decide)
theorem build_162_0_1 (y0:am) (y1:Int):∀ w,(Instr.build 162 #[(0,(.agg (am.C y0).toArray)),(1,(.int .i64 y1))]).run Tryz.prog w = .ok (.agg (ck.C (⟨y0,y1⟩:ck)).toArray) w:=fun _=>by kernel_rfl
theorem inf_162:∃ i,Tryz.prog.info? 162 = some i∧i.size = 5:=bI (by kernel_rfl)
theorem en_187:aK Tryz.prog 187:=⟨_,Tryz.func187,by decide,rfl⟩
abbrev oI:Nat:=154
theorem en_107:aK Tryz.prog 107:=⟨_,Tryz.func107,by decide,rfl⟩
theorem wd (y0:Int) (y1:Int) (y2:Int) (y3:Int):∀ w,(Instr.build 52 #[(0,(.int .i64 y0)),(1,(.int .i64 y1)),(2,(.int .i64 y2)),(3,(.int .i64 y3))]).run Tryz.prog w = .ok (.agg (am.C (⟨y0,y1,y2,y3⟩:am)).toArray) w:=fun _=>by kernel_rfl
theorem en_154:aK Tryz.prog 154:=⟨_,Tryz.func154,by decide,rfl⟩
theorem en_152:aK Tryz.prog 152:=⟨_,Tryz.func152,by decide,rfl⟩
theorem en_151:aK Tryz.prog 151:=⟨_,Tryz.func151,by decide,rfl⟩
abbrev uv:Nat:=101
def eC (r:Int):Value:=(.int .i64 r)
theorem sD:Fld Tryz.prog 209 0 0:=bU (m:=1) Tryz.underlying209 rfl rfl (by kernel_rfl) (by decide)
theorem kY:Sc Tryz.prog 155:=⟨⟨_,Tryz.underlying155,rfl⟩,bI (by kernel_rfl)⟩
abbrev vM:Nat:=212
def sG (r:Ptr):Value:=(pv r)
theorem lJ:Slc Tryz.prog 155 158 1:=⟨Tryz.underlying155,bI (by kernel_rfl)⟩
theorem rV:Slc Tryz.prog 158 22 1:=⟨Tryz.underlying158,bI (by kernel_rfl)⟩
theorem rc:Sc Tryz.prog 158:=⟨⟨_,Tryz.underlying158,rfl⟩,bI (by kernel_rfl)⟩
theorem en_212:aK Tryz.prog 212:=⟨_,Tryz.func212,by decide,rfl⟩
abbrev lQ:Nat:=188
theorem en_188:aK Tryz.prog 188:=⟨_,Tryz.func188,by decide,rfl⟩
abbrev ia:Nat:=156
theorem inf_22:∃ i,Tryz.prog.info? 22 = some i∧i.size = 1:=bI (by kernel_rfl)
abbrev fC:Nat:=157
theorem en_157:aK Tryz.prog 157:=⟨_,Tryz.func157,by decide,rfl⟩
theorem en_156:aK Tryz.prog 156:=⟨_,Tryz.func156,by decide,rfl⟩
abbrev qk:Nat:=158
abbrev ql:Nat:=159
def bh (r:ac × Bool):Value:=.tuple #[(.agg (ac.C r.1).toArray),(.bool r.2)]
theorem dc:∃ i,Tryz.prog.info? 30 = some i∧i.zero = some (.agg (ac.C (⟨0,0⟩:ac)).toArray):=kJ (by kernel_rfl)
theorem tH  : ∀ w,(Instr.build 30 #[]).run Tryz.prog w = .ok (.agg (ac.C (⟨0,0⟩:ac)).toArray) w:=fun _=>by kernel_rfl
theorem cD:Ag Tryz.prog 30 2:=⟨⟨_,Tryz.underlying30,rfl⟩,bI (by kernel_rfl)⟩
theorem bN:∃ i,Tryz.prog.info? 30 = some i∧i.size = 2:=bI (by kernel_rfl)
theorem jY (y1:Int):∀ w,(Instr.build 30 #[(1,(.int .u64 y1))]).run Tryz.prog w = .ok (.agg (ac.C (⟨0,y1⟩:ac)).toArray) w:=fun _=>by kernel_rfl
theorem mc:Fld Tryz.prog 149 1 3:=bU (m:=1) Tryz.underlying149 rfl rfl (by kernel_rfl) (by decide)
theorem wO:Sc Tryz.prog 144:=⟨⟨_,Tryz.underlying144,rfl⟩,bI (by kernel_rfl)⟩
theorem en_158:aK Tryz.prog 158:=⟨_,Tryz.func158,by decide,rfl⟩
theorem en_159:aK Tryz.prog 159:=⟨_,Tryz.func159,by decide,rfl⟩
theorem en_54:aK Tryz.prog 54:=⟨_,Tryz.func54,by decide,rfl⟩
abbrev eU:Nat:=102
def eJ (r:ac × am):Value:=.tuple #[(.agg (ac.C r.1).toArray),(.agg (am.C r.2).toArray)]
theorem jj (y0:Int):∀ w,(Instr.build 30 #[(0,(.int .i64 y0))]).run Tryz.prog w = .ok (.agg (ac.C (⟨y0,0⟩:ac)).toArray) w:=fun _=>by kernel_rfl
theorem jz:Fld Tryz.prog 89 2 2:=bU (m:=1) Tryz.underlying89 rfl rfl (by kernel_rfl) (by decide)
theorem slc_84:Slc Tryz.prog 84 94 1:=⟨Tryz.underlying84,bI (by kernel_rfl)⟩
theorem uU:aK Tryz.prog 102:=⟨_,Tryz.func102,by decide,rfl⟩
theorem en_101:aK Tryz.prog 101:=⟨_,Tryz.func101,by decide,rfl⟩
theorem sc_94:Sc Tryz.prog 94:=⟨⟨_,Tryz.underlying94,rfl⟩,bI (by kernel_rfl)⟩
theorem sc_84:Sc Tryz.prog 84:=⟨⟨_,Tryz.underlying84,rfl⟩,bI (by kernel_rfl)⟩
theorem en_100:aK Tryz.prog 100:=⟨_,Tryz.func100,by decide,rfl⟩
theorem en_99:aK Tryz.prog 99:=⟨_,Tryz.func99,by decide,rfl⟩
theorem en_96:aK Tryz.prog 96:=⟨_,Tryz.func96,by decide,rfl⟩
theorem en_98:aK Tryz.prog 98:=⟨_,Tryz.func98,by decide,rfl⟩
abbrev nq:Nat:=55
def R_ (_:Unit):Value:=.tuple #[]
theorem fld_98_0:Fld Tryz.prog 98 0 0:=bU (m:=1) Tryz.underlying98 rfl rfl (by kernel_rfl) (by decide)
theorem ra:Slc Tryz.prog 43 54 16:=⟨Tryz.underlying43,bI (by kernel_rfl)⟩
theorem ik:Fld Tryz.prog 54 4 8:=bU (m:=1) Tryz.underlying54 rfl rfl (by kernel_rfl) (by decide)
theorem oS:Fld Tryz.prog 54 5 9:=bU (m:=1) Tryz.underlying54 rfl rfl (by kernel_rfl) (by decide)
theorem ki:Fld Tryz.prog 54 6 10:=bU (m:=2) Tryz.underlying54 rfl rfl (by kernel_rfl) (by decide)
theorem gc:Fld Tryz.prog 54 7 12:=bU (m:=4) Tryz.underlying54 rfl rfl (by kernel_rfl) (by decide)
abbrev lU:Nat:=56
abbrev oJ:Nat:=57
def qV (r:Sl):Value:=(sv r)
abbrev t_2_tlb_line:Nat:=163
def R_tlb_line (r:ck):Value:=(.agg (ck.C r).toArray)
theorem zero_162:∃ i,Tryz.prog.info? 162 = some i∧i.zero = some (.agg (ck.C (⟨(⟨0,0,0,0⟩:am),0⟩:ck)).toArray):=kJ (by kernel_rfl)
abbrev qz:Nat:=173
theorem ag_163:Ag Tryz.prog 163 10:=⟨⟨_,Tryz.underlying163,rfl⟩,bI (by kernel_rfl)⟩
abbrev re:Nat:=105
theorem slc_173:Slc Tryz.prog 173 52 4:=⟨Tryz.underlying173,bI (by kernel_rfl)⟩
theorem en_105:aK Tryz.prog 105:=⟨_,Tryz.func105,by decide,rfl⟩
abbrev kP:Nat:=58
theorem fld_160_1:Fld Tryz.prog 160 1 1:=bU (m:=1) Tryz.underlying160 rfl rfl (by kernel_rfl) (by decide)
abbrev kR:Nat:=108
def gJ (r:Int):Value:=(.int .u64 r)
theorem fld_160_0:Fld Tryz.prog 160 0 0:=bU (m:=1) Tryz.underlying160 rfl rfl (by kernel_rfl) (by decide)
theorem sc_40:Sc Tryz.prog 40:=⟨⟨_,Tryz.underlying40,rfl⟩,bI (by kernel_rfl)⟩
abbrev fQ:Nat:=109
theorem en_109:aK Tryz.prog 109:=⟨_,Tryz.func109,by decide,rfl⟩
theorem inf_40:∃ i,Tryz.prog.info? 40 = some i∧i.size = 1:=bI (by kernel_rfl)
theorem en_108:aK Tryz.prog 108:=⟨_,Tryz.func108,by decide,rfl⟩
abbrev iT:Nat:=59
theorem mb:Fld Tryz.prog 157 0 0:=bU (m:=1) Tryz.underlying157 rfl rfl (by kernel_rfl) (by decide)
abbrev lr:Nat:=163
abbrev tm:Nat:=213
theorem en_213:aK Tryz.prog 213:=⟨_,Tryz.func213,by decide,rfl⟩
abbrev uA:Nat:=189
abbrev pG:Nat:=190
theorem en_189:aK Tryz.prog 189:=⟨_,Tryz.func189,by decide,rfl⟩
theorem en_190:aK Tryz.prog 190:=⟨_,Tryz.func190,by decide,rfl⟩
abbrev eL:Nat:=164
abbrev bd:Nat:=158
def cd (r:Sl):Value:=(sv r)
abbrev sc:Nat:=192
abbrev kL:Nat:=3
abbrev uO:Nat:=191
theorem en_192:aK Tryz.prog 192:=⟨_,Tryz.func192,by decide,rfl⟩
abbrev dA:Nat:=165
theorem inf_158:∃ i,Tryz.prog.info? 158 = some i∧i.size = 1:=bI (by kernel_rfl)
theorem en_165:aK Tryz.prog 165:=⟨_,Tryz.func165,by decide,rfl⟩
theorem en_164:aK Tryz.prog 164:=⟨_,Tryz.func164,by decide,rfl⟩
theorem en_163:aK Tryz.prog 163:=⟨_,Tryz.func163,by decide,rfl⟩
abbrev pX:Nat:=110
theorem en_110:aK Tryz.prog 110:=⟨_,Tryz.func110,by decide,rfl⟩
abbrev mX:Nat:=60
abbrev iS:Nat:=111
theorem en_111:aK Tryz.prog 111:=⟨_,Tryz.func111,by decide,rfl⟩
abbrev jn:Nat:=61
abbrev n_plain_fails:Nat:=113
theorem build_37_0_1_2 (y0:Int) (y1:Int) (y2:Int):∀ w,(Instr.build 37 #[(0,(.int .i64 y0)),(1,(.int .i64 y1)),(2,(.int .i64 y2))]).run Tryz.prog w = .ok (.agg (az.C (⟨y0,y1,y2,0⟩:az)).toArray) w:=fun _=>by kernel_rfl
abbrev jw:Nat:=134
abbrev jS:Nat:=193
theorem nR:Fld Tryz.prog 207 0 0:=bU (m:=1) Tryz.underlying207 rfl rfl (by kernel_rfl) (by decide)
theorem en_193:aK Tryz.prog 193:=⟨_,Tryz.func193,by decide,rfl⟩
abbrev jt:Nat:=166
abbrev t_none:Nat:=0
abbrev ti:Nat:=167
theorem nS:Fld Tryz.prog 149 3 5:=bU (m:=1) Tryz.underlying149 rfl rfl (by kernel_rfl) (by decide)
theorem en_134:aK Tryz.prog 134:=⟨_,Tryz.func134,by decide,rfl⟩
theorem en_167:aK Tryz.prog 167:=⟨_,Tryz.func167,by decide,rfl⟩
theorem en_166:aK Tryz.prog 166:=⟨_,Tryz.func166,by decide,rfl⟩
theorem sc_146:Sc Tryz.prog 146:=⟨⟨_,Tryz.underlying146,rfl⟩,bI (by kernel_rfl)⟩
abbrev lj:Nat:=114
theorem tx:Fld Tryz.prog 37 0 0:=bU (m:=1) Tryz.underlying37 rfl rfl (by kernel_rfl) (by decide)
theorem build_37_0_1_2_3 (y0:Int) (y1:Int) (y2:Int) (y3:Int):∀ w,(Instr.build 37 #[(0,(.int .i64 y0)),(1,(.int .i64 y1)),(2,(.int .i64 y2)),(3,(.int .i64 y3))]).run Tryz.prog w = .ok (.agg (az.C (⟨y0,y1,y2,y3⟩:az)).toArray) w:=fun _=>by kernel_rfl
abbrev ig:Nat:=135
abbrev ju:Nat:=194
theorem en_194:aK Tryz.prog 194:=⟨_,Tryz.func194,by decide,rfl⟩
abbrev lO:Nat:=168
def cT (r:Sl):Value:=(sv r)
abbrev kX:Nat:=202
def R_api_Cap (r:az):Value:=(.agg (az.C r).toArray)
theorem uW (y0:Int) (y1:Int):∀ w,(Instr.build 231 #[(0,(.int .i64 y0)),(1,(.int .i64 y1))]).run Tryz.prog w = .ok (.agg (aF.C (⟨y0,y1⟩:aF)).toArray) w:=fun _=>by kernel_rfl
theorem zero_231:∃ i,Tryz.prog.info? 231 = some i∧i.zero = some (.agg (aF.C (⟨0,0⟩:aF)).toArray):=kJ (by kernel_rfl)
theorem ag_231:Ag Tryz.prog 231 2:=⟨⟨_,Tryz.underlying231,rfl⟩,bI (by kernel_rfl)⟩
abbrev gQ:Nat:=197
theorem inf_231:∃ i,Tryz.prog.info? 231 = some i∧i.size = 2:=bI (by kernel_rfl)
abbrev kh:Nat:=179
abbrev lY:Nat:=195
theorem slc_197:Slc Tryz.prog 197 231 2:=⟨Tryz.underlying197,bI (by kernel_rfl)⟩
theorem fld_231_0:Fld Tryz.prog 231 0 0:=bU (m:=1) Tryz.underlying231 rfl rfl (by kernel_rfl) (by decide)
theorem fld_231_1:Fld Tryz.prog 231 1 1:=bU (m:=1) Tryz.underlying231 rfl rfl (by kernel_rfl) (by decide)
abbrev gF:Nat:=196
abbrev kS:Nat:=181
def aF.eqb (x y:aF):Bool:=((x.fEnv == y.fEnv) && ((x.fSlot == y.fSlot) && true))
theorem eqr_231 (n:Nat) (x y:aF):EqR Tryz.prog (n + 2) 231 (.agg (aF.C x).toArray) (.agg (aF.C y).toArray) (aF.eqb x y):=xr Tryz.underlying231 (by kernel_rfl) (lC (by decide) (gS aY rfl) (gS aY rfl) (jo (n:=n + 0) Tryz.underlying3) (lC (by decide) (gS aY rfl) (gS aY rfl) (jo (n:=n + 0) Tryz.underlying3) eqf_nil))
theorem eqg_231:Tryz.prog.eqGuardType Tryz.prog.depth 231 = false:=by kernel_rfl
theorem en_181:aK Tryz.prog 181:=⟨_,Tryz.func181,by decide,rfl⟩
abbrev gG:Nat:=197
def dx (r:Sl × Int):Value:=.tuple #[(sv r.1),(.int .i64 r.2)]
theorem en_196:aK Tryz.prog 196:=⟨_,Tryz.func196,by decide,rfl⟩
theorem en_179:aK Tryz.prog 179:=⟨_,Tryz.func179,by decide,rfl⟩
abbrev rP:Nat:=231
theorem en_195:aK Tryz.prog 195:=⟨_,Tryz.func195,by decide,rfl⟩
abbrev rQ:Nat:=147
abbrev lZ:Nat:=169
theorem en_169:aK Tryz.prog 169:=⟨_,Tryz.func169,by decide,rfl⟩
theorem en_168:aK Tryz.prog 168:=⟨_,Tryz.func168,by decide,rfl⟩
theorem en_135:aK Tryz.prog 135:=⟨_,Tryz.func135,by decide,rfl⟩
abbrev ir:Nat:=115
def jp (r:al × Int):Value:=.tuple #[(.agg (al.C r.1).toArray),(.int .i64 r.2)]
abbrev iR:Nat:=118
abbrev lw:Nat:=180
abbrev kT:Nat:=139
theorem en_139:aK Tryz.prog 139:=⟨_,Tryz.func139,by decide,rfl⟩
abbrev ns:Nat:=170
abbrev tT:Nat:=122
abbrev lN:Nat:=171
abbrev mW:Nat:=172
def gO (r:ac):Value:=(.agg (ac.C r).toArray)
theorem en_118:aK Tryz.prog 118:=⟨_,Tryz.func118,by decide,rfl⟩
theorem en_172:aK Tryz.prog 172:=⟨_,Tryz.func172,by decide,rfl⟩
theorem en_171:aK Tryz.prog 171:=⟨_,Tryz.func171,by decide,rfl⟩
theorem en_170:aK Tryz.prog 170:=⟨_,Tryz.func170,by decide,rfl⟩
abbrev ky:Nat:=116
theorem na (y0:Int) (y1:Int) (y2:Int):∀ w,(Instr.build 121 #[(0,(.int .i64 y0)),(1,(.int .i64 y1)),(2,(.int .i64 y2))]).run Tryz.prog w = .ok (.agg (al.C (⟨y0,y1,y2⟩:al)).toArray) w:=fun _=>by kernel_rfl
abbrev mz:Nat:=117
abbrev kx:Nat:=173
theorem en_173:aK Tryz.prog 173:=⟨_,Tryz.func173,by decide,rfl⟩
abbrev jT:Nat:=119
abbrev n_pred_Holds:Nat:=140
theorem ro:aK Tryz.prog 113:=⟨_,Tryz.func113,by decide,rfl⟩
theorem en_140:aK Tryz.prog 140:=⟨_,Tryz.func140,by decide,rfl⟩
abbrev li:Nat:=120
abbrev mw:Nat:=121
theorem en_116:aK Tryz.prog 116:=⟨_,Tryz.func116,by decide,rfl⟩
theorem en_114:aK Tryz.prog 114:=⟨_,Tryz.func114,by decide,rfl⟩
theorem en_115:aK Tryz.prog 115:=⟨_,Tryz.func115,by decide,rfl⟩
theorem en_117:aK Tryz.prog 117:=⟨_,Tryz.func117,by decide,rfl⟩
theorem en_119:aK Tryz.prog 119:=⟨_,Tryz.func119,by decide,rfl⟩
theorem en_120:aK Tryz.prog 120:=⟨_,Tryz.func120,by decide,rfl⟩
theorem en_121:aK Tryz.prog 121:=⟨_,Tryz.func121,by decide,rfl⟩
abbrev dz:Nat:=62
theorem en_56:aK Tryz.prog 56:=⟨_,Tryz.func56,by decide,rfl⟩
theorem en_55:aK Tryz.prog 55:=⟨_,Tryz.func55,by decide,rfl⟩
theorem fld_89_4:Fld Tryz.prog 89 4 4:=bU (m:=1) Tryz.underlying89 rfl rfl (by kernel_rfl) (by decide)
theorem fld_98_4:Fld Tryz.prog 98 4 8:=bU (m:=1) Tryz.underlying98 rfl rfl (by kernel_rfl) (by decide)
theorem fld_89_3:Fld Tryz.prog 89 3 3:=bU (m:=1) Tryz.underlying89 rfl rfl (by kernel_rfl) (by decide)
theorem en_60:aK Tryz.prog 60:=⟨_,Tryz.func60,by decide,rfl⟩
theorem sc_85:Sc Tryz.prog 85:=⟨⟨_,Tryz.underlying85,rfl⟩,bI (by kernel_rfl)⟩
theorem en_59:aK Tryz.prog 59:=⟨_,Tryz.func59,by decide,rfl⟩
theorem sc_86:Sc Tryz.prog 86:=⟨⟨_,Tryz.underlying86,rfl⟩,bI (by kernel_rfl)⟩
theorem en_58:aK Tryz.prog 58:=⟨_,Tryz.func58,by decide,rfl⟩
theorem inf_4:∃ i,Tryz.prog.info? 4 = some i∧i.size = 1:=bI (by kernel_rfl)
theorem en_62:aK Tryz.prog 62:=⟨_,Tryz.func62,by decide,rfl⟩
theorem en_61:aK Tryz.prog 61:=⟨_,Tryz.func61,by decide,rfl⟩
theorem en_57:aK Tryz.prog 57:=⟨_,Tryz.func57,by decide,rfl⟩
abbrev lV:Nat:=23
abbrev kO:Nat:=122
theorem en_122:aK Tryz.prog 122:=⟨_,Tryz.func122,by decide,rfl⟩
abbrev pZ:Nat:=63
abbrev lR:Nat:=123
abbrev jV:Nat:=124
theorem en_124:aK Tryz.prog 124:=⟨_,Tryz.func124,by decide,rfl⟩
theorem en_123:aK Tryz.prog 123:=⟨_,Tryz.func123,by decide,rfl⟩
abbrev lW:Nat:=64
theorem en_23:aK Tryz.prog 23:=⟨_,Tryz.func23,by decide,rfl⟩
theorem en_64:aK Tryz.prog 64:=⟨_,Tryz.func64,by decide,rfl⟩
theorem en_63:aK Tryz.prog 63:=⟨_,Tryz.func63,by decide,rfl⟩
abbrev ft:Nat:=24
theorem tw:Fld Tryz.prog 54 0 0:=bU (m:=1) Tryz.underlying54 rfl rfl (by kernel_rfl) (by decide)
theorem en_20:aK Tryz.prog 20:=⟨_,Tryz.func20,by decide,rfl⟩
theorem en_24:aK Tryz.prog 24:=⟨_,Tryz.func24,by decide,rfl⟩
theorem en_22:aK Tryz.prog 22:=⟨_,Tryz.func22,by decide,rfl⟩
abbrev eH:Nat:=16
theorem lB:Fld Tryz.prog 27 0 0:=bU (m:=1) Tryz.underlying27 rfl rfl (by kernel_rfl) (by decide)
theorem oT:Fld Tryz.prog 54 1 1:=bU (m:=1) Tryz.underlying54 rfl rfl (by kernel_rfl) (by decide)
theorem tv:Fld Tryz.prog 54 3 7:=bU (m:=1) Tryz.underlying54 rfl rfl (by kernel_rfl) (by decide)
abbrev n_hist_one:Nat:=69
abbrev jq:Nat:=50
def R_map_int_bool (r:(Option Nat)):Value:=(.map r)
abbrev gP:Nat:=113
def R_map_int_int (r:(Option Nat)):Value:=(.map r)
theorem zero_54:∃ i,Tryz.prog.info? 54 = some i∧i.zero = some (.agg (aC.C (⟨0,0,(⟨0,0,0,0,0⟩:ah),0,0,0,(⟨0,0⟩:ac),(⟨0,0,0,0⟩:am)⟩:aC)).toArray):=kJ (by kernel_rfl)
theorem ag_54:Ag Tryz.prog 54 16:=⟨⟨_,Tryz.underlying54,rfl⟩,bI (by kernel_rfl)⟩
theorem oW:Ag Tryz.prog 27 3:=⟨⟨_,Tryz.underlying27,rfl⟩,bI (by kernel_rfl)⟩
theorem en_69:aK Tryz.prog 69:=⟨_,Tryz.func69,by decide,rfl⟩
theorem inf_54:∃ i,Tryz.prog.info? 54 = some i∧i.size = 16:=bI (by kernel_rfl)
abbrev wX:Nat:=33
abbrev qm:Nat:=67
abbrev mY:Nat:=86
abbrev bX:Nat:=184
abbrev kg:Nat:=185
theorem en_185:aK Tryz.prog 185:=⟨_,Tryz.func185,by decide,rfl⟩
theorem en_184:aK Tryz.prog 184:=⟨_,Tryz.func184,by decide,rfl⟩
abbrev lh:Nat:=143
theorem en_143:aK Tryz.prog 143:=⟨_,Tryz.func143,by decide,rfl⟩
abbrev fF:Nat:=87
abbrev n_cmp_isNaN_int:Nat:=144
theorem en_144:aK Tryz.prog 144:=⟨_,Tryz.func144,by decide,rfl⟩
abbrev uB:Nat:=89
theorem en_89:aK Tryz.prog 89:=⟨_,Tryz.func89,by decide,rfl⟩
abbrev rj:Nat:=88
theorem en_87:aK Tryz.prog 87:=⟨_,Tryz.func87,by decide,rfl⟩
theorem en_67:aK Tryz.prog 67:=⟨_,Tryz.func67,by decide,rfl⟩
abbrev oN:Nat:=43
def tM (r:Ptr):Value:=(pv r)
theorem build_209  : ∀ w,(Instr.build 209 #[]).run Tryz.prog w = .ok (.agg (sF.C (⟨(⟨none,0,0,none⟩:Sl)⟩:sF)).toArray) w:=fun _=>by kernel_rfl
abbrev pS:Nat:=155
def R_SSuint64 (r:Sl):Value:=(sv r)
theorem inf_155:∃ i,Tryz.prog.info? 155 = some i∧i.size = 1:=bI (by kernel_rfl)
abbrev lH:Nat:=209
abbrev vJ:Nat:=93
def sq (r:Ptr):Value:=(pv r)
theorem build_207_0 (y0:Sl):∀ w,(Instr.build 207 #[(0,(sv y0))]).run Tryz.prog w = .ok (.agg (nU.C (⟨y0⟩:nU)).toArray) w:=fun _=>by kernel_rfl
abbrev qw:Nat:=207
abbrev wV:Nat:=94
def sw (r:Ptr):Value:=(pv r)
abbrev t_S_8_api_Cap:Nat:=203
def R_S_8_api_Cap (r:Sl):Value:=(sv r)
theorem build_205_0 (y0:Sl):∀ w,(Instr.build 205 #[(0,(sv y0))]).run Tryz.prog w = .ok (.agg (nX.C (⟨y0⟩:nX)).toArray) w:=fun _=>by kernel_rfl
abbrev nD:Nat:=205
abbrev wY:Nat:=95
def dL (r:Ptr):Value:=(pv r)
theorem tz:Fld Tryz.prog 27 2 2:=bU (m:=1) Tryz.underlying27 rfl rfl (by kernel_rfl) (by decide)
theorem build_149_0_1_3_4 (y0:aw) (y1:Ptr) (y3:Ptr) (y4:Ptr):∀ w,(Instr.build 149 #[(0,(.agg (aw.C y0).toArray)),(1,(pv y1)),(3,(pv y3)),(4,(pv y4))]).run Tryz.prog w = .ok (.agg (gf.C (⟨y0,y1,(⟨none,0,0,none⟩:Sl),y3,y4⟩:gf)).toArray) w:=fun _=>by kernel_rfl
abbrev eO:Nat:=145
def nc (r:Sl):Value:=(sv r)
theorem inf_145:∃ i,Tryz.prog.info? 145 = some i∧i.size = 1:=bI (by kernel_rfl)
abbrev cx:Nat:=149
theorem en_95:aK Tryz.prog 95:=⟨_,Tryz.func95,by decide,rfl⟩
theorem en_94:aK Tryz.prog 94:=⟨_,Tryz.func94,by decide,rfl⟩
theorem en_93:aK Tryz.prog 93:=⟨_,Tryz.func93,by decide,rfl⟩
abbrev nJ:Nat:=48
theorem mQ:Fld Tryz.prog 54 2 2:=bU (m:=5) Tryz.underlying54 rfl rfl (by kernel_rfl) (by decide)
abbrev n_judge_user:Nat:=131
abbrev gw:Nat:=216
theorem en_216:aK Tryz.prog 216:=⟨_,Tryz.func216,by decide,rfl⟩
abbrev rh:Nat:=199
abbrev my:Nat:=200
theorem en_199:aK Tryz.prog 199:=⟨_,Tryz.func199,by decide,rfl⟩
theorem en_200:aK Tryz.prog 200:=⟨_,Tryz.func200,by decide,rfl⟩
theorem en_48:aK Tryz.prog 48:=⟨_,Tryz.func48,by decide,rfl⟩
abbrev gE:Nat:=175
abbrev tk:Nat:=215
abbrev n_hist_Over:Nat:=198
def qi (r:Sl):Value:=(sv r)
theorem vS:Fld Tryz.prog 192 2 4:=bU (m:=1) Tryz.underlying192 rfl rfl (by kernel_rfl) (by decide)
abbrev pR:Nat:=234
theorem fld_192_0:Fld Tryz.prog 192 0 0:=bU (m:=1) Tryz.underlying192 rfl rfl (by kernel_rfl) (by decide)
theorem en_175:aK Tryz.prog 175:=⟨_,Tryz.func175,by decide,rfl⟩
theorem en_198:aK Tryz.prog 198:=⟨_,Tryz.func198,by decide,rfl⟩
abbrev lu:Nat:=174
theorem fld_192_1:Fld Tryz.prog 192 1 1:=bU (m:=3) Tryz.underlying192 rfl rfl (by kernel_rfl) (by decide)
def ac.eqb (x y:ac):Bool:=((x.fErr == y.fErr) && ((x.fVal == y.fVal) && true))
theorem oB:Sc Tryz.prog 28:=⟨⟨_,Tryz.underlying28,rfl⟩,bI (by kernel_rfl)⟩
theorem eqr_30 (n:Nat) (x y:ac):EqR Tryz.prog (n + 2) 30 (.agg (ac.C x).toArray) (.agg (ac.C y).toArray) (ac.eqb x y):=xr Tryz.underlying30 (by kernel_rfl) (lC (by decide) (gS oB rfl) (gS oB rfl) (jo (n:=n + 0) Tryz.underlying28) (lC (by decide) (gS ct rfl) (gS ct rfl) (jo (n:=n + 0) Tryz.underlying22) eqf_nil))
theorem eqg_30:Tryz.prog.eqGuardType Tryz.prog.depth 30 = false:=by kernel_rfl
def am.eqb (x y:am):Bool:=((x.fEnv == y.fEnv) && ((x.fPage == y.fPage) && ((x.fFrame == y.fFrame) && ((x.fRights == y.fRights) && true))))
theorem eqr_52 (n:Nat) (x y:am):EqR Tryz.prog (n + 2) 52 (.agg (am.C x).toArray) (.agg (am.C y).toArray) (am.eqb x y):=xr Tryz.underlying52 (by kernel_rfl) (lC (by decide) (gS aY rfl) (gS aY rfl) (jo (n:=n + 0) Tryz.underlying3) (lC (by decide) (gS aY rfl) (gS aY rfl) (jo (n:=n + 0) Tryz.underlying3) (lC (by decide) (gS aY rfl) (gS aY rfl) (jo (n:=n + 0) Tryz.underlying3) (lC (by decide) (gS aY rfl) (gS aY rfl) (jo (n:=n + 0) Tryz.underlying3) eqf_nil))))
theorem eqg_52:Tryz.prog.eqGuardType Tryz.prog.depth 52 = false:=by kernel_rfl
theorem slc_234:Slc Tryz.prog 234 121 3:=⟨Tryz.underlying234,bI (by kernel_rfl)⟩
theorem kj:Fld Tryz.prog 30 0 0:=bU (m:=1) Tryz.underlying30 rfl rfl (by kernel_rfl) (by decide)
theorem fld_30_1:Fld Tryz.prog 30 1 1:=bU (m:=1) Tryz.underlying30 rfl rfl (by kernel_rfl) (by decide)
theorem en_174:aK Tryz.prog 174:=⟨_,Tryz.func174,by decide,rfl⟩
abbrev lv:Nat:=132
abbrev nr:Nat:=133
theorem build_192_0_1_2 (y0:Sl) (y1:aw) (y2:Ptr):∀ w,(Instr.build 192 #[(0,(sv y0)),(1,(.agg (aw.C y1).toArray)),(2,(pv y2))]).run Tryz.prog w = .ok (.agg (kw.C (⟨y0,y1,y2⟩:kw)).toArray) w:=fun _=>by kernel_rfl
theorem en_133:aK Tryz.prog 133:=⟨_,Tryz.func133,by decide,rfl⟩
theorem en_132:aK Tryz.prog 132:=⟨_,Tryz.func132,by decide,rfl⟩
theorem en_131:aK Tryz.prog 131:=⟨_,Tryz.func131,by decide,rfl⟩
theorem en_43:aK Tryz.prog 43:=⟨_,Tryz.func43,by decide,rfl⟩
abbrev di:Nat:=192
theorem en_33:aK Tryz.prog 33:=⟨_,Tryz.func33,by decide,rfl⟩
abbrev ux:Nat:=84
theorem en_84:aK Tryz.prog 84:=⟨_,Tryz.func84,by decide,rfl⟩
abbrev oL:Nat:=39
abbrev oM:Nat:=40
theorem en_40:aK Tryz.prog 40:=⟨_,Tryz.func40,by decide,rfl⟩
theorem en_39:aK Tryz.prog 39:=⟨_,Tryz.func39,by decide,rfl⟩
abbrev uP:Nat:=19
def oX (r:Ptr):Value:=(pv r)
theorem build_157_0 (y0:Sl):∀ w,(Instr.build 157 #[(0,(sv y0))]).run Tryz.prog w = .ok (.agg (nV.C (⟨y0⟩:nV)).toArray) w:=fun _=>by kernel_rfl
abbrev kV:Nat:=157
abbrev tj:Nat:=49
def iH (r:Ptr):Value:=(pv r)
theorem build_160_1 (y1:Sl):∀ w,(Instr.build 160 #[(1,(sv y1))]).run Tryz.prog w = .ok (.agg (jF.C (⟨(⟨none,0,0,none⟩:Sl),y1⟩:jF)).toArray) w:=fun _=>by kernel_rfl
abbrev hG:Nat:=160
abbrev nM:Nat:=50
abbrev rg:Nat:=97
def gC (r:Ptr):Value:=(pv r)
abbrev pQ:Nat:=166
theorem en_97:aK Tryz.prog 97:=⟨_,Tryz.func97,by decide,rfl⟩
abbrev iE:Nat:=51
def su (r:Ptr):Value:=(pv r)
abbrev mL:Nat:=87
def qr (r:Sl):Value:=(sv r)
theorem nz (y0:Ptr) (y1:Int) (y3:Ptr) (y4:Ptr) (y5:Sl):∀ w,(Instr.build 89 #[(0,(pv y0)),(1,(.int .i64 y1)),(3,(pv y3)),(4,(pv y4)),(5,(sv y5))]).run Tryz.prog w = .ok (.agg (fD.C (⟨y0,y1,(⟨none,0,0,none⟩:Sl),y3,y4,y5,(⟨none,0,0,none⟩:Sl),0⟩:fD)).toArray) w:=fun _=>by kernel_rfl
abbrev bQ:Nat:=84
def dP (r:Sl):Value:=(sv r)
theorem inf_84:∃ i,Tryz.prog.info? 84 = some i∧i.size = 1:=bI (by kernel_rfl)
theorem en_51:aK Tryz.prog 51:=⟨_,Tryz.func51,by decide,rfl⟩
abbrev ci:Nat:=89
theorem en_50:aK Tryz.prog 50:=⟨_,Tryz.func50,by decide,rfl⟩
theorem en_49:aK Tryz.prog 49:=⟨_,Tryz.func49,by decide,rfl⟩
abbrev wW:Nat:=21
def mS (r:Sl):Value:=(sv r)
abbrev mK:Nat:=68
abbrev n_twin_View:Nat:=30
def gV (r:Sl):Value:=(sv r)
abbrev kW:Nat:=59
theorem build_63_0_1 (y0:Int) (y1:Int):∀ w,(Instr.build 63 #[(0,(.int .i64 y0)),(1,(.int .i64 y1))]).run Tryz.prog w = .ok (.agg (ch.C (⟨y0,y1,0,(⟨0,0,0,0,0⟩:ah),0,0⟩:ch)).toArray) w:=fun _=>by kernel_rfl
abbrev uQ:Nat:=41
abbrev lP:Nat:=92
theorem en_92:aK Tryz.prog 92:=⟨_,Tryz.func92,by decide,rfl⟩
abbrev mA:Nat:=46
abbrev wS:Nat:=176
theorem en_176:aK Tryz.prog 176:=⟨_,Tryz.func176,by decide,rfl⟩
abbrev n_user_Do:Nat:=136
def iv (r:Value):Value:=(r)
theorem build_248_0_1 (y0:Int) (y1:Int):∀ w,(Instr.build 248 #[(0,(.int .i64 y0)),(1,(.int .i64 y1))]).run Tryz.prog w = .ok (.agg (bY.C (⟨y0,y1,(⟨0,0,0,0,0⟩:ah),Value.nilIface⟩:bY)).toArray) w:=fun _=>by kernel_rfl
abbrev bf:Nat:=246
abbrev nC:Nat:=248
abbrev ko:Nat:=142
abbrev fY:Nat:=182
theorem ag_295:Ag Tryz.prog 295 3:=⟨⟨_,Tryz.underlying295,rfl⟩,bI (by kernel_rfl)⟩
abbrev fd:Nat:=229
def fA (r:aJ):Value:=(.agg (aJ.C r).toArray)
abbrev cU:Nat:=225
abbrev fu:Nat:=230
abbrev gj:Nat:=195
abbrev jf:Nat:=275
def gg (r:Value × Bool):Value:=.tuple #[(r.1),(.bool r.2)]
abbrev iz:Nat:=277
def fT (r:Value × Bool):Value:=.tuple #[(r.1),(.bool r.2)]
def R_Serror (r:Sl):Value:=(sv r)
theorem slc_278:Slc Tryz.prog 278 195 1:=⟨Tryz.underlying278,bI (by kernel_rfl)⟩
abbrev uy:Nat:=228
theorem en_228:aK Tryz.prog 228:=⟨_,Tryz.func228,by decide,rfl⟩
theorem sc_195:Sc Tryz.prog 195:=⟨⟨_,Tryz.underlying195,rfl⟩,bI (by kernel_rfl)⟩
abbrev qx:Nat:=304
def nA (r:Value × Bool):Value:=.tuple #[(r.1),(.bool r.2)]
theorem zero_295:∃ i,Tryz.prog.info? 295 = some i∧i.zero = some (.agg (aJ.C (⟨none,none,0⟩:aJ)).toArray):=kJ (by kernel_rfl)
abbrev iw:Nat:=226
def R_abi_Kind (r:Int):Value:=(.int .u8 r)
def str_6ae768b9:ByteArray:=⟨#[101,114,114,111,114,115,58,32,42,116,97,114,103,101,116,32,109,117,115,116,32,98,101,32,105,110,116,101,114,102,97,99,101,32,111,114,32,105,109,112,108,101,109,101,110,116,32,101,114,114,111,114]⟩
abbrev uY:Nat:=9
theorem sc_243:Sc Tryz.prog 243:=⟨⟨_,Tryz.underlying243,rfl⟩,bI (by kernel_rfl)⟩
abbrev eR:Nat:=227
def str_ae9b7a08:ByteArray:=⟨#[101,114,114,111,114,115,58,32,116,97,114,103,101,116,32,109,117,115,116,32,98,101,32,97,32,110,111,110,45,110,105,108,32,112,111,105,110,116,101,114]⟩
theorem inf_295:∃ i,Tryz.prog.info? 295 = some i∧i.size = 3:=bI (by kernel_rfl)
def str_53947bae:ByteArray:=⟨#[101,114,114,111,114,115,58,32,116,97,114,103,101,116,32,99,97,110,110,111,116,32,98,101,32,110,105,108]⟩
abbrev uz:Nat:=223
def eI (r:Ptr × Bool):Value:=.tuple #[(pv r.1),(.bool r.2)]
theorem zero_246:∃ i,Tryz.prog.info? 246 = some i∧i.zero = some (pv none):=kJ (by kernel_rfl)
theorem sc_246:Sc Tryz.prog 246:=⟨⟨_,Tryz.underlying246,rfl⟩,bI (by kernel_rfl)⟩
abbrev bA:Nat:=289
theorem en_223:aK Tryz.prog 223:=⟨_,Tryz.func223,by decide,rfl⟩
abbrev jQ:Nat:=217
theorem vR:Fld Tryz.prog 248 0 0:=bU (m:=1) Tryz.underlying248 rfl rfl (by kernel_rfl) (by decide)
theorem en_217:aK Tryz.prog 217:=⟨_,Tryz.func217,by decide,rfl⟩
abbrev uw:Nat:=201
def R_trap_Trap (r:bY):Value:=(.agg (bY.C r).toArray)
theorem en_201:aK Tryz.prog 201:=⟨_,Tryz.func201,by decide,rfl⟩
abbrev n_trap_In:Nat:=177
theorem xt:aK Tryz.prog 142:=⟨_,Tryz.func142,by decide,rfl⟩
theorem en_177:aK Tryz.prog 177:=⟨_,Tryz.func177,by decide,rfl⟩
abbrev nl:Nat:=137
def oY (r:Ptr):Value:=(pv r)
theorem build_284_0 (y0:Int):∀ w,(Instr.build 284 #[(0,(.int .u64 y0))]).run Tryz.prog w = .ok (.agg (nW.C (⟨y0,0⟩:nW)).toArray) w:=fun _=>by kernel_rfl
abbrev qy:Nat:=284
abbrev tn:Nat:=202
def tL (r:Ptr):Value:=(pv r)
theorem build_286_0_1 (y0:Ptr) (y1:Ptr):∀ w,(Instr.build 286 #[(0,(pv y0)),(1,(pv y1))]).run Tryz.prog w = .ok (.agg (kv.C (⟨y0,y1⟩:kv)).toArray) w:=fun _=>by kernel_rfl
abbrev mJ:Nat:=286
theorem en_202:aK Tryz.prog 202:=⟨_,Tryz.func202,by decide,rfl⟩
abbrev wU:Nat:=203
theorem sC:Fld Tryz.prog 284 1 1:=bU (m:=1) Tryz.underlying284 rfl rfl (by kernel_rfl) (by decide)
theorem nQ:Fld Tryz.prog 284 0 0:=bU (m:=1) Tryz.underlying284 rfl rfl (by kernel_rfl) (by decide)
abbrev oP:Nat:=204
theorem fld_286_0:Fld Tryz.prog 286 0 0:=bU (m:=1) Tryz.underlying286 rfl rfl (by kernel_rfl) (by decide)
theorem en_204:aK Tryz.prog 204:=⟨_,Tryz.func204,by decide,rfl⟩
theorem sc_264:Sc Tryz.prog 264:=⟨⟨_,Tryz.underlying264,rfl⟩,bI (by kernel_rfl)⟩
abbrev nk:Nat:=205
abbrev nK:Nat:=183
theorem en_183:aK Tryz.prog 183:=⟨_,Tryz.func183,by decide,rfl⟩
abbrev mi:Nat:=272
def jG (r:Value × Bool):Value:=.tuple #[(r.1),(.bool r.2)]
abbrev nL:Nat:=141
theorem fld_248_3:Fld Tryz.prog 248 3 7:=bU (m:=1) Tryz.underlying248 rfl rfl (by kernel_rfl) (by decide)
abbrev wT:Nat:=224
theorem mg (y0:Int) (y1:Int):∀ w,(Instr.build 34 #[(0,(.int .u64 y0)),(1,(.int .u64 y1))]).run Tryz.prog w = .ok (.agg (ah.C (⟨y0,y1,0,0,0⟩:ah)).toArray) w:=fun _=>by kernel_rfl
theorem fld_248_1:Fld Tryz.prog 248 1 1:=bU (m:=1) Tryz.underlying248 rfl rfl (by kernel_rfl) (by decide)
theorem fld_248_2:Fld Tryz.prog 248 2 2:=bU (m:=5) Tryz.underlying248 rfl rfl (by kernel_rfl) (by decide)
def ah.eqb (x y:ah):Bool:=((x.e0 == y.e0) && ((x.e1 == y.e1) && ((x.e2 == y.e2) && ((x.e3 == y.e3) && ((x.e4 == y.e4) && true)))))
theorem eqr_34 (n:Nat) (x y:ah):EqR Tryz.prog (n + 2) 34 (.agg (ah.C x).toArray) (.agg (ah.C y).toArray) (ah.eqb x y):=eqr_arr Tryz.underlying34 inf_22 ⟨_,_,_,_,(gS ct rfl),(gS ct rfl),(jo (n:=n + 0) Tryz.underlying22),⟨_,_,_,_,(gS ct rfl),(gS ct rfl),(jo (n:=n + 0) Tryz.underlying22),⟨_,_,_,_,(gS ct rfl),(gS ct rfl),(jo (n:=n + 0) Tryz.underlying22),⟨_,_,_,_,(gS ct rfl),(gS ct rfl),(jo (n:=n + 0) Tryz.underlying22),⟨_,_,_,_,(gS ct rfl),(gS ct rfl),(jo (n:=n + 0) Tryz.underlying22),rfl,rfl⟩,rfl⟩,rfl⟩,rfl⟩,rfl⟩
theorem eqg_34:Tryz.prog.eqGuardType Tryz.prog.depth 34 = false:=by kernel_rfl
def dT (r:ByteArray):Value:=(.string r)
def oe:ByteArray:=⟨#[116,114,97,112,32,51,58,32,116,114,97,112,32,51]⟩
theorem en_141:aK Tryz.prog 141:=⟨_,Tryz.func141,by decide,rfl⟩
theorem en_224:aK Tryz.prog 224:=⟨_,Tryz.func224,by decide,rfl⟩
abbrev lp:Nat:=218
theorem en_218:aK Tryz.prog 218:=⟨_,Tryz.func218,by decide,rfl⟩
abbrev lq:Nat:=206
abbrev lX:Nat:=219
theorem fld_286_1:Fld Tryz.prog 286 1 1:=bU (m:=1) Tryz.underlying286 rfl rfl (by kernel_rfl) (by decide)
theorem en_219:aK Tryz.prog 219:=⟨_,Tryz.func219,by decide,rfl⟩
abbrev jR:Nat:=207
abbrev rl:Nat:=220
theorem en_220:aK Tryz.prog 220:=⟨_,Tryz.func220,by decide,rfl⟩
theorem en_207:aK Tryz.prog 207:=⟨_,Tryz.func207,by decide,rfl⟩
abbrev nj:Nat:=208
abbrev n_word_Args:Nat:=209
abbrev pW:Nat:=210
theorem build_34_0 (y0:Int):∀ w,(Instr.build 34 #[(0,(.int .u64 y0))]).run Tryz.prog w = .ok (.agg (ah.C (⟨y0,0,0,0,0⟩:ah)).toArray) w:=fun _=>by kernel_rfl
theorem jE (y0:Int) (y1:Int) (y2:Int) (y3:Int):∀ w,(Instr.build 34 #[(0,(.int .u64 y0)),(1,(.int .u64 y1)),(2,(.int .u64 y2)),(3,(.int .u64 y3))]).run Tryz.prog w = .ok (.agg (ah.C (⟨y0,y1,y2,y3,0⟩:ah)).toArray) w:=fun _=>by kernel_rfl
theorem en_210:aK Tryz.prog 210:=⟨_,Tryz.func210,by decide,rfl⟩
theorem en_209:aK Tryz.prog 209:=⟨_,Tryz.func209,by decide,rfl⟩
theorem en_208:aK Tryz.prog 208:=⟨_,Tryz.func208,by decide,rfl⟩
theorem en_206:aK Tryz.prog 206:=⟨_,Tryz.func206,by decide,rfl⟩
theorem en_205:aK Tryz.prog 205:=⟨_,Tryz.func205,by decide,rfl⟩
theorem en_203:aK Tryz.prog 203:=⟨_,Tryz.func203,by decide,rfl⟩
abbrev ll:Nat:=178
theorem en_178:aK Tryz.prog 178:=⟨_,Tryz.func178,by decide,rfl⟩
abbrev lm:Nat:=138
theorem tI (y0:Int) (y1:Int) (y2:Int):∀ w,(Instr.build 27 #[(0,(.int .i64 y0)),(1,(.int .i64 y1)),(2,(.int .i64 y2))]).run Tryz.prog w = .ok (.agg (aw.C (⟨y0,y1,y2⟩:aw)).toArray) w:=fun _=>by kernel_rfl
theorem tG (y0:Int) (y1:Int) (y2:Int):∀ w,(Instr.build 34 #[(0,(.int .u64 y0)),(1,(.int .u64 y1)),(2,(.int .u64 y2))]).run Tryz.prog w = .ok (.agg (ah.C (⟨y0,y1,y2,0,0⟩:ah)).toArray) w:=fun _=>by kernel_rfl
theorem en_46:aK Tryz.prog 46:=⟨_,Tryz.func46,by decide,rfl⟩
theorem en_138:aK Tryz.prog 138:=⟨_,Tryz.func138,by decide,rfl⟩
theorem en_137:aK Tryz.prog 137:=⟨_,Tryz.func137,by decide,rfl⟩
theorem en_136:aK Tryz.prog 136:=⟨_,Tryz.func136,by decide,rfl⟩
abbrev kA:Nat:=85
theorem en_85:aK Tryz.prog 85:=⟨_,Tryz.func85,by decide,rfl⟩
abbrev kB:Nat:=42
theorem slc_59:Slc Tryz.prog 59 63 10:=⟨Tryz.underlying59,bI (by kernel_rfl)⟩
theorem zero_63:∃ i,Tryz.prog.info? 63 = some i∧i.zero = some (.agg (ch.C (⟨0,0,0,(⟨0,0,0,0,0⟩:ah),0,0⟩:ch)).toArray):=kJ (by kernel_rfl)
theorem fld_63_0:Fld Tryz.prog 63 0 0:=bU (m:=1) Tryz.underlying63 rfl rfl (by kernel_rfl) (by decide)
theorem fld_63_1:Fld Tryz.prog 63 1 1:=bU (m:=1) Tryz.underlying63 rfl rfl (by kernel_rfl) (by decide)
theorem inf_63:∃ i,Tryz.prog.info? 63 = some i∧i.size = 10:=bI (by kernel_rfl)
theorem ag_63:Ag Tryz.prog 63 10:=⟨⟨_,Tryz.underlying63,rfl⟩,bI (by kernel_rfl)⟩
abbrev oO:Nat:=90
theorem en_90:aK Tryz.prog 90:=⟨_,Tryz.func90,by decide,rfl⟩
abbrev n_fair_Fair:Nat:=44
theorem zero_27:∃ i,Tryz.prog.info? 27 = some i∧i.zero = some (.agg (aw.C (⟨0,0,0⟩:aw)).toArray):=kJ (by kernel_rfl)
theorem en_19:aK Tryz.prog 19:=⟨_,Tryz.func19,by decide,rfl⟩
theorem en_30:aK Tryz.prog 30:=⟨_,Tryz.func30,by decide,rfl⟩
theorem en_44:aK Tryz.prog 44:=⟨_,Tryz.func44,by decide,rfl⟩
theorem en_42:aK Tryz.prog 42:=⟨_,Tryz.func42,by decide,rfl⟩
theorem en_41:aK Tryz.prog 41:=⟨_,Tryz.func41,by decide,rfl⟩
theorem en_16:aK Tryz.prog 16:=⟨_,Tryz.func16,by decide,rfl⟩
theorem en_21:aK Tryz.prog 21:=⟨_,Tryz.func21,by decide,rfl⟩
theorem inf_27:∃ i,Tryz.prog.info? 27 = some i∧i.size = 3:=bI (by kernel_rfl)
abbrev kz:Nat:=14
theorem en_14:aK Tryz.prog 14:=⟨_,Tryz.func14,by decide,rfl⟩
abbrev t_api_Event:Nat:=54
abbrev t_api_Answer:Nat:=30
def R_api_Size (r:aw):Value:=(.agg (aw.C r).toArray)
abbrev qN:Nat:=27
abbrev mB:Nat:=28
abbrev rf:Nat:=125
theorem en_125:aK Tryz.prog 125:=⟨_,Tryz.func125,by decide,rfl⟩
abbrev oK:Nat:=65
theorem fld_63_2:Fld Tryz.prog 63 2 2:=bU (m:=1) Tryz.underlying63 rfl rfl (by kernel_rfl) (by decide)
theorem fld_63_3:Fld Tryz.prog 63 3 3:=bU (m:=5) Tryz.underlying63 rfl rfl (by kernel_rfl) (by decide)
theorem fld_63_4:Fld Tryz.prog 63 4 8:=bU (m:=1) Tryz.underlying63 rfl rfl (by kernel_rfl) (by decide)
theorem fld_63_5:Fld Tryz.prog 63 5 9:=bU (m:=1) Tryz.underlying63 rfl rfl (by kernel_rfl) (by decide)
theorem en_65:aK Tryz.prog 65:=⟨_,Tryz.func65,by decide,rfl⟩
abbrev np:Nat:=29
theorem en_29:aK Tryz.prog 29:=⟨_,Tryz.func29,by decide,rfl⟩
theorem en_28:aK Tryz.prog 28:=⟨_,Tryz.func28,by decide,rfl⟩
theorem en_27:aK Tryz.prog 27:=⟨_,Tryz.func27,by decide,rfl⟩
abbrev mP:Nat:=8
def iu.eqb (x y:iu):Bool:=((x.fEnv == y.fEnv) && ((x.fSlot == y.fSlot) && true))
def str_73df774b:ByteArray:=⟨#[48,49,50,51,52,53,54,55,56,57,97,98,99,100,101,102,103,104,105,106,107,108,109,110,111,112,113,114,115,116,117,118,119,120,121,122]⟩
def str_e9752c08:ByteArray:=⟨#[48,48,48,49,48,50,48,51,48,52,48,53,48,54,48,55,48,56,48,57,49,48,49,49,49,50,49,51,49,52,49,53,49,54,49,55,49,56,49,57,50,48,50,49,50,50,50,51,50,52,50,53,50,54,50,55,50,56,50,57,51,48,51,49,51,50,51,51,51,52,51,53,51,54,51,55,51,56,51,57,52,48,52,49,52,50,52,51,52,52,52,53,52,54,52,55,52,56,52,57,53,48,53,49,53,50,53,51,53,52,53,53,53,54,53,55,53,56,53,57,54,48,54,49,54,50,54,51,54,52,54,53,54,54,54,55,54,56,54,57,55,48,55,49,55,50,55,51,55,52,55,53,55,54,55,55,55,56,55,57,56,48,56,49,56,50,56,51,56,52,56,53,56,54,56,55,56,56,56,57,57,48,57,49,57,50,57,51,57,52,57,53,57,54,57,55,57,56,57,57]⟩
abbrev jh:Nat:=255
abbrev ri:Nat:=256
theorem inf_5:∃ i,Tryz.prog.info? 5 = some i∧i.size = 1:=bI (by kernel_rfl)
abbrev ph:Nat:=257
def R_Suint8_string (r:Sl × ByteArray):Value:=.tuple #[(sv r.1),(.string r.2)]
def R_Suint8 (r:Sl):Value:=(sv r)
abbrev qO:Nat:=258
theorem en_255:aK Tryz.prog 255:=⟨_,Tryz.func255,by decide,rfl⟩
theorem zero_325:∃ i,Tryz.prog.info? 325 = some i∧i.zero = some (.agg [.int .u8 0,.int .u8 0,.int .u8 0,.int .u8 0,.int .u8 0,.int .u8 0,.int .u8 0,.int .u8 0,.int .u8 0,.int .u8 0,.int .u8 0,.int .u8 0,.int .u8 0,.int .u8 0,.int .u8 0,.int .u8 0,.int .u8 0,.int .u8 0,.int .u8 0,.int .u8 0,.int .u8 0,.int .u8 0,.int .u8 0,.int .u8 0].toArray):=kJ (by kernel_rfl)
abbrev wk:Nat:=325
theorem arr_325:Arr Tryz.prog 325 24 5 1:=⟨Tryz.underlying325,bI (by kernel_rfl)⟩
theorem en_257:aK Tryz.prog 257:=⟨_,Tryz.func257,by decide,rfl⟩
theorem en_256:aK Tryz.prog 256:=⟨_,Tryz.func256,by decide,rfl⟩
theorem en_258:aK Tryz.prog 258:=⟨_,Tryz.func258,by decide,rfl⟩
abbrev gx:Nat:=254
theorem en_254:aK Tryz.prog 254:=⟨_,Tryz.func254,by decide,rfl⟩
abbrev jv:Nat:=253
theorem en_253:aK Tryz.prog 253:=⟨_,Tryz.func253,by decide,rfl⟩
abbrev th:Nat:=252
theorem en_252:aK Tryz.prog 252:=⟨_,Tryz.func252,by decide,rfl⟩
abbrev iQ:Nat:=249
abbrev tf:Nat:=250
abbrev ni:Nat:=251
abbrev t_api_Pick:Nat:=63
abbrev sI:Nat:=94
abbrev fo:Nat:=96
abbrev dY:Nat:=153
abbrev t_uint64:Nat:=22
abbrev t_api_Line:Nat:=52
abbrev t_api_Pte:Nat:=121
abbrev t_bool:Nat:=4
abbrev rr:Nat:=270
abbrev t_tlb_line:Nat:=162
end Go.Proofs.YtmggcfijlpldpaaGreatDoor
namespace Go.Proofs.YtmggcfijlpldpaaGreatDoor
open Go Mb
set_option linter.unusedVariables false
theorem el_Sint:El Tryz.prog dH kL 1 8 [.int .i64 0]:=vZ Tryz.underlying40 (by kernel_rfl) rfl
theorem qn:El Tryz.prog eN t_api_Event 16 128 [.int .i64 0,.int .i64 0,.int .u64 0,.int .u64 0,.int .u64 0,.int .u64 0,.int .u64 0,.int .i64 0,.int .i64 0,.int .i64 0,.int .i64 0,.int .u64 0,.int .i64 0,.int .i64 0,.int .i64 0,.int .i64 0]:=vZ Tryz.underlying43 (by kernel_rfl) rfl
theorem xu:El Tryz.prog kW t_api_Pick 10 80 [.int .i64 0,.int .i64 0,.int .i64 0,.int .u64 0,.int .u64 0,.int .u64 0,.int .u64 0,.int .u64 0,.int .i64 0,.int .i64 0]:=vZ Tryz.underlying59 (by kernel_rfl) rfl
theorem el_Sapi_Answer:El Tryz.prog mK t_api_Answer 2 16 [.int .i64 0,.int .u64 0]:=vZ Tryz.underlying68 (by kernel_rfl) rfl
theorem el_SPtlb_Tlb:El Tryz.prog bQ sI 1 8 [pv none]:=vZ Tryz.underlying84 (by kernel_rfl) rfl
theorem el_SPkern_call:El Tryz.prog mL fo 1 8 [pv none]:=vZ Tryz.underlying87 (by kernel_rfl) rfl
theorem wa:El Tryz.prog eO dY 1 8 [pv none]:=vZ Tryz.underlying145 (by kernel_rfl) rfl
theorem uD:El Tryz.prog pS bd 1 24 [sv (⟨none,0,0,none⟩:Sl)]:=vZ Tryz.underlying155 (by kernel_rfl) rfl
theorem fS:El Tryz.prog bd t_uint64 1 8 [.int .u64 0]:=vZ Tryz.underlying158 (by kernel_rfl) rfl
theorem el_Sapi_Line:El Tryz.prog qz t_api_Line 4 32 [.int .i64 0,.int .i64 0,.int .i64 0,.int .i64 0]:=vZ Tryz.underlying173 (by kernel_rfl) rfl
theorem tE:El Tryz.prog gQ rP 2 16 [.int .i64 0,.int .i64 0]:=vZ Tryz.underlying197 (by kernel_rfl) rfl
theorem el_S_8_api_Cap:El Tryz.prog t_S_8_api_Cap kX 32 256 [.int .i64 0,.int .i64 0,.int .i64 0,.int .i64 0,.int .i64 0,.int .i64 0,.int .i64 0,.int .i64 0,.int .i64 0,.int .i64 0,.int .i64 0,.int .i64 0,.int .i64 0,.int .i64 0,.int .i64 0,.int .i64 0,.int .i64 0,.int .i64 0,.int .i64 0,.int .i64 0,.int .i64 0,.int .i64 0,.int .i64 0,.int .i64 0,.int .i64 0,.int .i64 0,.int .i64 0,.int .i64 0,.int .i64 0,.int .i64 0,.int .i64 0,.int .i64 0]:=vZ Tryz.underlying203 (by kernel_rfl) rfl
theorem el_Sapi_Pte:El Tryz.prog pR t_api_Pte 3 24 [.int .i64 0,.int .i64 0,.int .i64 0]:=vZ Tryz.underlying234 (by kernel_rfl) rfl
theorem enter_hist_Order_c1:aK Tryz.prog mY:=⟨_,Tryz.func86,by decide,rfl⟩
theorem enter_hist_Order_c2:aK Tryz.prog rj:=⟨_,Tryz.func88,by decide,rfl⟩
theorem uT:aK Tryz.prog lw:=⟨_,Tryz.func180,by decide,rfl⟩
theorem vY:aK Tryz.prog gG:=⟨_,Tryz.func197,by decide,rfl⟩
theorem enter_hist_Over_c1:aK Tryz.prog tk:=⟨_,Tryz.func215,by decide,rfl⟩
theorem mp_map_int_bool:Mp Tryz.prog jq kL t_bool (.bool false):=⟨Tryz.underlying50,⟨_,Tryz.underlying3⟩,kJ (by kernel_rfl)⟩
theorem mp_map_int_int:Mp Tryz.prog gP kL kL (.int .i64 0):=⟨Tryz.underlying113,⟨_,Tryz.underlying3⟩,kJ (by kernel_rfl)⟩
theorem agn_8_api_Pte:Ag Tryz.prog tT 24:=⟨⟨_,Tryz.underlying122,rfl⟩,bI (by kernel_rfl)⟩
theorem arn_8_api_Pte:Tryz.prog.underlying tT = some (.array 8 t_api_Pte):=Tryz.underlying122
theorem age_8_api_Pte:Ag Tryz.prog t_api_Pte 3:=⟨⟨_,Tryz.underlying121,rfl⟩,bI (by kernel_rfl)⟩
theorem arn_2_tlb_line:Tryz.prog.underlying t_2_tlb_line = some (.array 2 t_tlb_line):=Tryz.underlying163
theorem age_2_tlb_line:Ag Tryz.prog t_tlb_line 5:=⟨⟨_,Tryz.underlying162,rfl⟩,bI (by kernel_rfl)⟩
theorem agn_8_api_Cap:Ag Tryz.prog kX 32:=⟨⟨_,Tryz.underlying202,rfl⟩,bI (by kernel_rfl)⟩
theorem arn_8_api_Cap:Tryz.prog.underlying kX = some (.array 8 fJ):=Tryz.underlying202
theorem age_8_api_Cap:Ag Tryz.prog fJ 4:=⟨⟨_,Tryz.underlying37,rfl⟩,bI (by kernel_rfl)⟩
end Go.Proofs.YtmggcfijlpldpaaGreatDoor
namespace Go.Proofs.YtmggcfijlpldpaaGreatDoor
open Go Mb
set_option linter.unusedVariables false
def sh_word_Kind (a0:ah) (K:(Int × Bool)→Hp→Prop):Hp→Prop:=br (((decide (a0.e0 ≥ 1)) && (decide (a0.e0 ≤ 10))) || ((decide (a0.e0 ≥ 20)) && (decide (a0.e0 ≤ 23)))) ( K ((IntKind.i64.wrap a0.e0),true)) ( K (0,false))
theorem sim_word_Kind (a0:ah) {K:(Int × Bool)→Hp→Prop} {h:Hp} (H:sh_word_Kind a0 K h):Ct Tryz.prog n_word_Kind #[(.agg (ah.C a0).toArray)] h fun v h'=>∃ r,v = bK r∧K r h':=au [(.agg (ah.C a0).toArray)] Tryz.func53 c c c fun _=>M<|aa<|cC (l:=ah.C a0) c c c fun b1=>p (ar c)<|O c<|ak<|M<|p (bp da c c (by decide))<|be (ba (k:=0) ct c c c) c<|O c<|M<|J c<|p (jk c c)<|J c<|V c c (ax _) (fun g1=>wv<|ag c)<|V c c (ax _) (fun g2=>wv<|v_le (aD c g2) c)<|p (bT c c)<|J c<|V c c (aH _) (fun g3=>wv<|ag c)<|V c c (aH _) (fun g4=>wv<|jk (aD c g4) c)<|V c c (aH _) (fun g5=>wv<|ag<|aD c g5)<|V c c (rq _ _) (fun g6=>wv<|ag c)<|V c c (rq _ _) (fun g7=>wv<|v_le (aD c g7) c)<|V c c (aH _) (fun g8=>wv<|bT (aD c g8)<|aL c<|xi g8)<|p (dh c c)<|ad<|av c H (fun k9 H10=>M<|J c<|p (dX ⟨_,Tryz.underlying22⟩ Tryz.underlying3 c)<|p (ar c)<|O c<|ai<|bw (bR c (bZ c)<|bZ c) ⟨((IntKind.i64.wrap a0.e0),true),c,H10⟩) fun k9 H10=>an<|M<|p (ar c)<|O c<|ai<|bw (bR c (bZ c)<|bZ c) ⟨(0,false),c,H10⟩
def aB (a0:ah):Int × Bool:=(bif (((decide (a0.e0 ≥ 1)) && (decide (a0.e0 ≤ 10))) || ((decide (a0.e0 ≥ 20)) && (decide (a0.e0 ≤ 23)))) then (((IntKind.i64.wrap a0.e0),true)) else ((0,false)))
theorem pr_word_Kind (a0:ah) {K:(Int × Bool)→Hp→Prop} {h:Hp} (k:K (aB a0) h):sh_word_Kind a0 K h:=(jZ (K:=K) (fun k=>k) (fun k=>k)) k
theorem jX (a0:ah) (h:Hp):Ct Tryz.prog n_word_Kind #[(.agg (ah.C a0).toArray)] h fun v h'=>∃ r,v = bK r∧(r = aB a0∧h' = h):=sim_word_Kind a0 (pr_word_Kind a0 ⟨rfl,rfl⟩)
def sh_word_User (a0:Int) (K:Bool→Hp→Prop):Hp→Prop:=K ((decide (a0 ≥ 20)) && (decide (a0 ≤ 23)))
theorem sim_word_User (a0:Int) {K:Bool→Hp→Prop} {h:Hp} (H:sh_word_User a0 K h):Ct Tryz.prog n_word_User #[(.int .i64 a0)] h fun v h'=>∃ r,v = aA r∧K r h':=au [(.int .i64 a0)] Tryz.func54 c c c fun _=>M<|O c<|M<|J c<|p (jk c c)<|J c<|V c c (ax _) (fun g1=>wv<|ag c)<|V c c (ax _) (fun g2=>wv<|v_le (aD c g2) c)<|p (bT c c)<|O c<|ai<|Y ⟨((decide (a0 ≥ 20)) && (decide (a0 ≤ 23))),c,H⟩
def cK (a0:Int):Bool:=(((decide (a0 ≥ 20)) && (decide (a0 ≤ 23))))
theorem pr_word_User (a0:Int) {K:Bool→Hp→Prop} {h:Hp} (k:K (cK a0) h):sh_word_User a0 K h:=(fun k=>k) k
theorem sn (a0:Int) (h:Hp):Ct Tryz.prog n_word_User #[(.int .i64 a0)] h fun v h'=>∃ r,v = aA r∧(r = cK a0∧h' = h):=sim_word_User a0 (pr_word_User a0 ⟨rfl,rfl⟩)
def sh_word_Rights (a0:Int) (K:(Int × Bool)→Hp→Prop):Hp→Prop:=br ((decide (a0 < 1)) || (decide (a0 > 3))) ( K (0,false)) ( K ((IntKind.i64.wrap a0),true))
theorem sim_word_Rights (a0:Int) {K:(Int × Bool)→Hp→Prop} {h:Hp} (H:sh_word_Rights a0 K h):Ct Tryz.prog n_word_Rights #[(.int .u64 a0)] h fun v h'=>∃ r,v = bK r∧K r h':=au [(.int .u64 a0)] Tryz.func186 c c c fun _=>M<|p (ar c)<|O c<|ak<|M<|J c<|p (cu c c)<|J c<|V c c (aH _) (fun g1=>wv<|ag c)<|V c c (aH _) (fun g2=>wv<|qv (aD c g2) c)<|p (dh c c)<|ad<|av c H (fun k3 H4=>M<|p (ar c)<|O c<|ai<|bw (bR c (bZ c)<|bZ c) ⟨(0,false),c,H4⟩) fun k3 H4=>an<|M<|J c<|p (dX ⟨_,Tryz.underlying22⟩ Tryz.underlying3 c)<|p (ar c)<|O c<|ai<|bw (bR c (bZ c)<|bZ c) ⟨((IntKind.i64.wrap a0),true),c,H4⟩
def hU (a0:Int):Int × Bool:=(bif ((decide (a0 < 1)) || (decide (a0 > 3))) then ((0,false)) else (((IntKind.i64.wrap a0),true)))
theorem pr_word_Rights (a0:Int) {K:(Int × Bool)→Hp→Prop} {h:Hp} (k:K (hU a0) h):sh_word_Rights a0 K h:=(jZ (K:=K) (fun k=>k) (fun k=>k)) k
theorem ct_word_Rights (a0:Int) (h:Hp):Ct Tryz.prog n_word_Rights #[(.int .u64 a0)] h fun v h'=>∃ r,v = bK r∧(r = hU a0∧h' = h):=sim_word_Rights a0 (pr_word_Rights a0 ⟨rfl,rfl⟩)
def sh_table_is (a0:Int) (K:Bool→Hp→Prop):Hp→Prop:=K ((decide (a0 ≥ 0)) && (decide (a0 < 8)))
theorem sim_table_is (a0:Int) {K:Bool→Hp→Prop} {h:Hp} (H:sh_table_is a0 K h):Ct Tryz.prog n_table_is #[(.int .i64 a0)] h fun v h'=>∃ r,v = aA r∧K r h':=au [(.int .i64 a0)] Tryz.func150 c c c fun _=>M<|O c<|M<|J c<|p (jk c c)<|J c<|V c c (ax _) (fun g1=>wv<|ag c)<|V c c (ax _) (fun g2=>wv<|cu (aD c g2) c)<|p (bT c c)<|O c<|ai<|Y ⟨((decide (a0 ≥ 0)) && (decide (a0 < 8))),c,H⟩
def bz (a0:Int):Bool:=(((decide (a0 ≥ 0)) && (decide (a0 < 8))))
theorem pr_table_is (a0:Int) {K:Bool→Hp→Prop} {h:Hp} (k:K (bz a0) h):sh_table_is a0 K h:=(fun k=>k) k
theorem uE (a0:Int) (h:Hp):Ct Tryz.prog n_table_is #[(.int .i64 a0)] h fun v h'=>∃ r,v = aA r∧(r = bz a0∧h' = h):=sim_table_is a0 (pr_table_is a0 ⟨rfl,rfl⟩)
def sh_pte_May (a0:Int) (K:Bool→Hp→Prop):Hp→Prop:=K ((decide (a0 ≥ 1)) && (decide (a0 ≤ 3)))
theorem sim_pte_May (a0:Int) {K:Bool→Hp→Prop} {h:Hp} (H:sh_pte_May a0 K h):Ct Tryz.prog n_pte_May #[(.int .i64 a0)] h fun v h'=>∃ r,v = aA r∧K r h':=au [(.int .i64 a0)] Tryz.func161 c c c fun _=>M<|O c<|M<|J c<|p (jk c c)<|J c<|V c c (ax _) (fun g1=>wv<|ag c)<|V c c (ax _) (fun g2=>wv<|v_le (aD c g2) c)<|p (bT c c)<|O c<|ai<|Y ⟨((decide (a0 ≥ 1)) && (decide (a0 ≤ 3))),c,H⟩
def cg (a0:Int):Bool:=(((decide (a0 ≥ 1)) && (decide (a0 ≤ 3))))
theorem pr_pte_May (a0:Int) {K:Bool→Hp→Prop} {h:Hp} (k:K (cg a0) h):sh_pte_May a0 K h:=(fun k=>k) k
theorem qf (a0:Int) (h:Hp):Ct Tryz.prog n_pte_May #[(.int .i64 a0)] h fun v h'=>∃ r,v = aA r∧(r = cg a0∧h' = h):=sim_pte_May a0 (pr_pte_May a0 ⟨rfl,rfl⟩)
def sh_pte_Within (a0:Int) (a1:Int) (K:Bool→Hp→Prop):Hp→Prop:=K (((cg a0) && (cg a1)) && ((iandnot .i64 a0 a1) == 0))
theorem sim_pte_Within (a0:Int) (a1:Int) {K:Bool→Hp→Prop} {h:Hp} (H:sh_pte_Within a0 a1 K h):Ct Tryz.prog n_pte_Within #[(.int .i64 a0),(.int .i64 a1)] h fun v h'=>∃ r,v = aA r∧K r h':=au [(.int .i64 a0),(.int .i64 a1)] Tryz.func106 c c c fun _=>M<|O c<|M<|J c<|aa<|cF (vs:=[(.int .i64 a0)]) (bu<|qf a0 _) en_161 c c<|J c<|V c c (ax _) (fun g1=>wv<|ag c)<|cY (vs:=[(.int .i64 a1)]) c c c (ax _) (fun g2=>bu<|qf a1 _) en_161 (fun g2=>aP (aD c g2) bS) c<|p (bT c c)<|J c<|V c c (ax _) (fun g3=>wv<|ag c)<|V c c (ax _) (fun g4=>wv<|ag c)<|V c c (ax _) (fun g5=>wv<|v_iandnot (aD c g5)<|aD c g5)<|V c c (ax _) (fun g6=>wv<|bL (aD c g6) c)<|p (bT c c)<|O c<|ai<|Y ⟨(((cg a0) && (cg a1)) && ((iandnot .i64 a0 a1) == 0)),c,H⟩
def aT (a0:Int) (a1:Int):Bool:=((((cg a0) && (cg a1)) && ((iandnot .i64 a0 a1) == 0)))
theorem pr_pte_Within (a0:Int) (a1:Int) {K:Bool→Hp→Prop} {h:Hp} (k:K (aT a0 a1) h):sh_pte_Within a0 a1 K h:=(fun k=>k) k
theorem db (a0:Int) (a1:Int) (h:Hp):Ct Tryz.prog n_pte_Within #[(.int .i64 a0),(.int .i64 a1)] h fun v h'=>∃ r,v = aA r∧(r = aT a0 a1∧h' = h):=sim_pte_Within a0 a1 (pr_pte_Within a0 a1 ⟨rfl,rfl⟩)
def sh_pte_Put (a0:al) (K:(Int × Bool)→Hp→Prop):Hp→Prop:=br (al.eqb a0 (⟨0,0,0⟩:al)) ( K (0,true)) ( br (((((decide (a0.fFrame < 0)) || (decide (a0.fFrame ≥ 16))) || (decide (a0.fSlot < 0))) || (decide (a0.fSlot ≥ 8))) || (!(cg a0.fRights))) ( K (0,false)) ( K ((IntKind.u64.wrap (IntKind.i64.wrap ((IntKind.i64.wrap ((IntKind.i64.wrap (32768 + (IntKind.i64.wrap (256 * a0.fFrame)))) + (IntKind.i64.wrap (16 * a0.fSlot)))) + a0.fRights))),true)))
theorem sim_pte_Put (a0:al) {K:(Int × Bool)→Hp→Prop} {h:Hp} (H:sh_pte_Put a0 K h):Ct Tryz.prog n_pte_Put #[(.agg (al.C a0).toArray)] h fun v h'=>∃ r,v = bJ r∧K r h':=au [(.agg (al.C a0).toArray)] Tryz.func149 c c c fun _=>M<|aa<|cC (l:=al.C a0) c c c fun b1=>p (ar c)<|O c<|ak<|M<|be (bC (k:=0) dK c c c c) c<|p (bc (vs:=[]) c kr)<|p (v_eqA eqg_121 (eqr_121 9998 _ _) c c)<|ad<|av c H (fun k1 H2=>M<|p (ar c)<|O c<|ai<|bw (bR c (bZ c)<|bZ c) ⟨(0,true),c,H2⟩) fun k1 H2=>an<|ak<|M<|p (ae nT c)<|be (ba (k:=0) aY c c c) c<|p (cu c c)<|J c<|V c c (aH _) (fun g3=>wv<|ae nT c)<|V c c (aH _) (fun g4=>cv<|ba (k:=0) aY (aD c g4) c c)<|V c c (aH _) (fun g5=>wv<|jk (aD c g5) c)<|p (dh c c)<|J c<|V c c (aH _) (fun g6=>wv<|ae qd c)<|V c c (aH _) (fun g7=>cv<|ba (k:=0) aY (aD c g7) c c)<|V c c (aH _) (fun g8=>wv<|cu (aD c g8) c)<|p (dh c c)<|J c<|V c c (aH _) (fun g9=>wv<|ae qd c)<|V c c (aH _) (fun g10=>cv<|ba (k:=0) aY (aD c g10) c c)<|V c c (aH _) (fun g11=>wv<|jk (aD c g11) c)<|p (dh c c)<|J c<|V c c (aH _) (fun g12=>wv<|ae dN c)<|V c c (aH _) (fun g13=>cv<|ba (k:=0) aY (aD c g13) c c)<|cY (vs:=[(.int .i64 a0.fRights)]) c c c (aH _) (fun g14=>bu<|qf a0.fRights _) en_161 (fun g14=>aP (aD c g14) bS) c<|V c c (aH _) (fun g15=>wv<|cq<|aD c g15)<|p (dh c c)<|ad<|av c H2 (fun k16 H17=>M<|p (ar c)<|O c<|ai<|bw (bR c (bZ c)<|bZ c) ⟨(0,false),c,H17⟩) fun k16 H17=>an<|M<|p (ae nT c)<|be (ba (k:=0) aY c c c) c<|p (v_mul c c)<|p (bq c c)<|p (ae qd c)<|be (ba (k:=0) aY c c c) c<|p (v_mul c c)<|p (bq c c)<|p (ae dN c)<|be (ba (k:=0) aY c c c) c<|p (bq c c)<|p (dX ⟨_,Tryz.underlying3⟩ Tryz.underlying22 c)<|p (ar c)<|O c<|ai<|bw (bR c (bZ c)<|bZ c) ⟨((IntKind.u64.wrap (IntKind.i64.wrap ((IntKind.i64.wrap ((IntKind.i64.wrap (32768 + (IntKind.i64.wrap (256 * a0.fFrame)))) + (IntKind.i64.wrap (16 * a0.fSlot)))) + a0.fRights))),true),c,H17⟩
def fL (a0:al):Int × Bool:=(bif (al.eqb a0 (⟨0,0,0⟩:al)) then ((0,true)) else (bif (((((decide (a0.fFrame < 0)) || (decide (a0.fFrame ≥ 16))) || (decide (a0.fSlot < 0))) || (decide (a0.fSlot ≥ 8))) || (!(cg a0.fRights))) then ((0,false)) else (((IntKind.u64.wrap (IntKind.i64.wrap ((IntKind.i64.wrap ((IntKind.i64.wrap (32768 + (IntKind.i64.wrap (256 * a0.fFrame)))) + (IntKind.i64.wrap (16 * a0.fSlot)))) + a0.fRights))),true))))
theorem pr_pte_Put (a0:al) {K:(Int × Bool)→Hp→Prop} {h:Hp} (k:K (fL a0) h):sh_pte_Put a0 K h:=(jZ (K:=K) (fun k=>k) (jZ (K:=K) (fun k=>k) (fun k=>k))) k
theorem ct_pte_Put (a0:al) (h:Hp):Ct Tryz.prog n_pte_Put #[(.agg (al.C a0).toArray)] h fun v h'=>∃ r,v = bJ r∧(r = fL a0∧h' = h):=sim_pte_Put a0 (pr_pte_Put a0 ⟨rfl,rfl⟩)
def sh_tlb_empty (K:am→Hp→Prop):Hp→Prop:=K (⟨(-1),0,0,0⟩:am)
theorem sim_tlb_empty {K:am→Hp→Prop} {h:Hp} (H:sh_tlb_empty K h):Ct Tryz.prog n_tlb_empty #[] h fun v h'=>∃ r,v = R_api_Line r∧K r h':=au [] Tryz.func146 c c c fun _=>M<|aa<|aM (l:=am.C (⟨0,0,0,0⟩:am)) kK c c fun b0=>ad<|M<|p (bc c<|build_52_0 (-1))<|aa<|aO (k:=0) (vs:=am.C (⟨(-1),0,0,0⟩:am)) fw c c c c c c c<|ad<|ai<|bw (mq c<|bB (k:=0) c gU c c) ⟨(⟨(-1),0,0,0⟩:am),c,H⟩
def dE:am:=((⟨(-1),0,0,0⟩:am))
theorem pr_tlb_empty {K:am→Hp→Prop} {h:Hp} (k:K (dE) h):sh_tlb_empty K h:=(fun k=>k) k
theorem xv (h:Hp):Ct Tryz.prog n_tlb_empty #[] h fun v h'=>∃ r,v = R_api_Line r∧(r = dE∧h' = h):=sim_tlb_empty (pr_tlb_empty ⟨rfl,rfl⟩)
def sh_pte_Lets (a0:Int) (a1:Int) (K:Bool→Hp→Prop):Hp→Prop:=br (a1 == 20) ( K (aT 1 a0)) ( br (a1 == 21) ( K (aT 2 a0)) ( br (a1 == 22) ( K (aT 3 a0)) ( br (a1 == 23) ( K (aT 3 a0)) ( K (aT 0 a0)))))
theorem sim_pte_Lets (a0:Int) (a1:Int) {K:Bool→Hp→Prop} {h:Hp} (H:sh_pte_Lets a0 a1 K h):Ct Tryz.prog n_pte_Lets #[(.int .i64 a0),(.int .i64 a1)] h fun v h'=>∃ r,v = aA r∧K r h':=au [(.int .i64 a0),(.int .i64 a1)] Tryz.func152 c c c fun _=>M<|O c<|M<|O c<|ak<|M<|J c<|ad<|ay<|M<|p (bL c c)<|O c<|av c H (fun k1 H2=>aq<|O c<|M<|J c<|J c<|aa<|cF (vs:=[(.int .i64 1),(.int .i64 a0)]) (bu<|db 1 a0 _) mD c c<|O c<|ai<|Y ⟨aT 1 a0,c,H2⟩) fun k1 H2=>M<|p (bL c c)<|O c<|av c H2 (fun k3 H4=>aq<|O c<|M<|J c<|J c<|aa<|cF (vs:=[(.int .i64 2),(.int .i64 a0)]) (bu<|db 2 a0 _) mD c c<|O c<|ai<|Y ⟨aT 2 a0,c,H4⟩) fun k3 H4=>ak<|M<|p (bL c c)<|O c<|av c H4 (fun k5 H6=>an<|kG c k5<|aq<|O c<|M<|J c<|J c<|aa<|cF (vs:=[(.int .i64 3),(.int .i64 a0)]) (bu<|db 3 a0 _) mD c c<|O c<|ai<|Y ⟨aT 3 a0,c,H6⟩) fun k5 H6=>aq<|p (bL c c)<|O c<|av c H6 (fun k7 H8=>aq<|O c<|M<|J c<|J c<|aa<|cF (vs:=[(.int .i64 3),(.int .i64 a0)]) (bu<|db 3 a0 _) mD c c<|O c<|ai<|Y ⟨aT 3 a0,c,H8⟩) fun k7 H8=>an<|M<|J c<|J c<|aa<|cF (vs:=[(.int .i64 0),(.int .i64 a0)]) (bu<|db 0 a0 _) mD c c<|O c<|ai<|Y ⟨aT 0 a0,c,H8⟩
def dq (a0:Int) (a1:Int):Bool:=(bif (a1 == 20) then ((aT 1 a0)) else (bif (a1 == 21) then ((aT 2 a0)) else (bif (a1 == 22) then ((aT 3 a0)) else (bif (a1 == 23) then ((aT 3 a0)) else ((aT 0 a0))))))
theorem pr_pte_Lets (a0:Int) (a1:Int) {K:Bool→Hp→Prop} {h:Hp} (k:K (dq a0 a1) h):sh_pte_Lets a0 a1 K h:=(jZ (K:=K) (fun k=>k) (jZ (K:=K) (fun k=>k) (jZ (K:=K) (fun k=>k) (jZ (K:=K) (fun k=>k) (fun k=>k))))) k
theorem jL (a0:Int) (a1:Int) (h:Hp):Ct Tryz.prog n_pte_Lets #[(.int .i64 a0),(.int .i64 a1)] h fun v h'=>∃ r,v = aA r∧(r = dq a0 a1∧h' = h):=sim_pte_Lets a0 a1 (pr_pte_Lets a0 a1 ⟨rfl,rfl⟩)
def rK (a0:Int) (K:Bool→Hp→Prop):Hp→Prop:=K (a0 != a0)
theorem sim_cmp_isNaN_uint64 (a0:Int) {K:Bool→Hp→Prop} {h:Hp} (H:rK a0 K h):Ct Tryz.prog tm #[(.int .u64 a0)] h fun v h'=>∃ r,v = aA r∧K r h':=au [(.int .u64 a0)] Tryz.func213 c c c fun _=>M<|O c<|M<|J c<|J c<|p (pb c c)<|O c<|ai<|Y ⟨(a0 != a0),c,H⟩
def du (a0:Int):Bool:=((a0 != a0))
theorem pr_cmp_isNaN_uint64 (a0:Int) {K:Bool→Hp→Prop} {h:Hp} (k:K (du a0) h):rK a0 K h:=(fun k=>k) k
theorem rN (a0:Int) (h:Hp):Ct Tryz.prog tm #[(.int .u64 a0)] h fun v h'=>∃ r,v = aA r∧(r = du a0∧h' = h):=sim_cmp_isNaN_uint64 a0 (pr_cmp_isNaN_uint64 a0 ⟨rfl,rfl⟩)
def sW (a0:Int) (a1:Int) (K:Bool→Hp→Prop):Hp→Prop:=K (((du a0) && (!(du a1))) || (decide (a0 < a1)))
theorem sim_cmp_Less_uint64 (a0:Int) (a1:Int) {K:Bool→Hp→Prop} {h:Hp} (H:sW a0 a1 K h):Ct Tryz.prog uA #[(.int .u64 a0),(.int .u64 a1)] h fun v h'=>∃ r,v = aA r∧K r h':=au [(.int .u64 a0),(.int .u64 a1)] Tryz.func189 c c c fun _=>M<|O c<|M<|J c<|aa<|cF (vs:=[(.int .u64 a0)]) (bu<|rN a0 _) en_213 c c<|J c<|V c c (ax _) (fun g1=>wv<|ag c)<|cY (vs:=[(.int .u64 a1)]) c c c (ax _) (fun g2=>bu<|rN a1 _) en_213 (fun g2=>aP (aD c g2) bS) c<|V c c (ax _) (fun g3=>wv<|cq<|aD c g3)<|p (bT c c)<|J c<|V c c (aH _) (fun g4=>wv<|ag c)<|V c c (aH _) (fun g5=>wv<|ag c)<|V c c (aH _) (fun g6=>wv<|cu (aD c g6)<|aD c g6)<|p (dh c c)<|O c<|ai<|Y ⟨(((du a0) && (!(du a1))) || (decide (a0 < a1))),c,H⟩
def hY (a0:Int) (a1:Int):Bool:=((((du a0) && (!(du a1))) || (decide (a0 < a1))))
theorem pr_cmp_Less_uint64 (a0:Int) (a1:Int) {K:Bool→Hp→Prop} {h:Hp} (k:K (hY a0 a1) h):sW a0 a1 K h:=(fun k=>k) k
theorem ct_cmp_Less_uint64 (a0:Int) (a1:Int) (h:Hp):Ct Tryz.prog uA #[(.int .u64 a0),(.int .u64 a1)] h fun v h'=>∃ r,v = aA r∧(r = hY a0 a1∧h' = h):=sim_cmp_Less_uint64 a0 a1 (pr_cmp_Less_uint64 a0 a1 ⟨rfl,rfl⟩)
def ou (a0:Int) (K:Bool→Hp→Prop):Hp→Prop:=K (a0 != a0)
theorem vd (a0:Int) {K:Bool→Hp→Prop} {h:Hp} (H:ou a0 K h):Ct Tryz.prog pG #[(.int .u64 a0)] h fun v h'=>∃ r,v = aA r∧K r h':=au [(.int .u64 a0)] Tryz.func190 c c c fun _=>M<|O c<|M<|J c<|J c<|p (pb c c)<|O c<|ai<|Y ⟨(a0 != a0),c,H⟩
def dF (a0:Int):Bool:=((a0 != a0))
theorem wP (a0:Int) {K:Bool→Hp→Prop} {h:Hp} (k:K (dF a0) h):ou a0 K h:=(fun k=>k) k
theorem oU (a0:Int) (h:Hp):Ct Tryz.prog pG #[(.int .u64 a0)] h fun v h'=>∃ r,v = aA r∧(r = dF a0∧h' = h):=vd a0 (wP a0 ⟨rfl,rfl⟩)
def sh_plain_fails (a0:Int) (K:(ac × Bool)→Hp→Prop):Hp→Prop:=K ((⟨a0,0⟩:ac),true)
theorem sim_plain_fails (a0:Int) {K:(ac × Bool)→Hp→Prop} {h:Hp} (H:sh_plain_fails a0 K h):Ct Tryz.prog n_plain_fails #[(.int .i64 a0)] h fun v h'=>∃ r,v = bh r∧K r h':=au [(.int .i64 a0)] Tryz.func113 c c c fun _=>M<|aa<|aM (l:=ac.C (⟨0,0⟩:ac)) dc c c fun b2=>O c<|M<|J c<|p (bc c<|jj a0)<|aa<|aO (k:=0) (vs:=ac.C (⟨a0,0⟩:ac)) bN c c c c c c c<|O c<|ai<|bw (bR c (bB (k:=0) c cD c c)<|bZ c) ⟨((⟨a0,0⟩:ac),true),c,H⟩
def aN (a0:Int):ac × Bool:=(((⟨a0,0⟩:ac),true))
theorem pr_plain_fails (a0:Int) {K:(ac × Bool)→Hp→Prop} {h:Hp} (k:K (aN a0) h):sh_plain_fails a0 K h:=(fun k=>k) k
theorem dJ (a0:Int) (h:Hp):Ct Tryz.prog n_plain_fails #[(.int .i64 a0)] h fun v h'=>∃ r,v = bh r∧(r = aN a0∧h' = h):=sim_plain_fails a0 (pr_plain_fails a0 ⟨rfl,rfl⟩)
def sh_pred_Holds (a0:Int) (a1:Int) (a2:Int) (K:Bool→Hp→Prop):Hp→Prop:=br (a0 == 1) ( K (a1 == a2)) ( br (a0 == 2) ( K (a1 != a2)) ( br (a0 == 3) ( K (decide (a1 < a2))) ( br (a0 == 4) ( K (decide (a1 > a2))) ( K false))))
theorem sim_pred_Holds (a0:Int) (a1:Int) (a2:Int) {K:Bool→Hp→Prop} {h:Hp} (H:sh_pred_Holds a0 a1 a2 K h):Ct Tryz.prog n_pred_Holds #[(.int .i64 a0),(.int .u64 a1),(.int .u64 a2)] h fun v h'=>∃ r,v = aA r∧K r h':=au [(.int .i64 a0),(.int .u64 a1),(.int .u64 a2)] Tryz.func140 c c c fun _=>M<|O c<|ak<|M<|J c<|ad<|ay<|M<|p (bL c c)<|O c<|av c H (fun k1 H2=>M<|J c<|J c<|p (bL c c)<|O c<|ai<|Y ⟨(a1 == a2),c,H2⟩) fun k1 H2=>M<|p (bL c c)<|O c<|av c H2 (fun k3 H4=>M<|J c<|J c<|p (pb c c)<|O c<|ai<|Y ⟨(a1 != a2),c,H4⟩) fun k3 H4=>M<|p (bL c c)<|O c<|av c H4 (fun k5 H6=>M<|J c<|J c<|p (cu c c)<|O c<|ai<|Y ⟨decide (a1 < a2),c,H6⟩) fun k5 H6=>M<|p (bL c c)<|O c<|av c H6 (fun k7 H8=>M<|J c<|J c<|p (qv c c)<|O c<|ai<|Y ⟨decide (a1 > a2),c,H8⟩) fun k7 H8=>an<|M<|O c<|ai<|Y ⟨false,c,H8⟩
def mO (a0:Int) (a1:Int) (a2:Int):Bool:=(bif (a0 == 1) then ((a1 == a2)) else (bif (a0 == 2) then ((a1 != a2)) else (bif (a0 == 3) then ((decide (a1 < a2))) else (bif (a0 == 4) then ((decide (a1 > a2))) else (false)))))
theorem pr_pred_Holds (a0:Int) (a1:Int) (a2:Int) {K:Bool→Hp→Prop} {h:Hp} (k:K (mO a0 a1 a2) h):sh_pred_Holds a0 a1 a2 K h:=(jZ (K:=K) (fun k=>k) (jZ (K:=K) (fun k=>k) (jZ (K:=K) (fun k=>k) (jZ (K:=K) (fun k=>k) (fun k=>k))))) k
theorem uV (a0:Int) (a1:Int) (a2:Int) (h:Hp):Ct Tryz.prog n_pred_Holds #[(.int .i64 a0),(.int .u64 a1),(.int .u64 a2)] h fun v h'=>∃ r,v = aA r∧(r = mO a0 a1 a2∧h' = h):=sim_pred_Holds a0 a1 a2 (pr_pred_Holds a0 a1 a2 ⟨rfl,rfl⟩)
def sh_hist_one (a0:aC) (a1:aw) (a2:Int) (K:Bool→Hp→Prop):Hp→Prop:=br (((((decide (a0.fCore < 0)) || (decide (a0.fCore ≥ a1.fCores))) || (decide (a0.fEnv < 0))) || (decide (a0.fEnv ≥ a1.fEnvs))) || (decide (a0.fBegin ≤ a2))) ( K false) ( br (a0.fEffect == 0) ( K (a0.fEnd == 0)) ( K ((decide (a0.fEffect ≥ a0.fBegin)) && ((a0.fEnd == 0) || (decide (a0.fEnd ≥ a0.fEffect))))))
theorem sim_hist_one (a0:aC) (a1:aw) (a2:Int) {K:Bool→Hp→Prop} {h:Hp} (H:sh_hist_one a0 a1 a2 K h):Ct Tryz.prog n_hist_one #[(.agg (aC.C a0).toArray),(.agg (aw.C a1).toArray),(.int .i64 a2)] h fun v h'=>∃ r,v = aA r∧K r h':=au [(.agg (aC.C a0).toArray),(.agg (aw.C a1).toArray),(.int .i64 a2)] Tryz.func69 c c c fun _=>M<|aa<|cC (l:=aC.C a0) c c c fun b3=>aa<|cC (l:=aw.C a1) c c c fun b4=>O c<|ak<|ay<|M<|p (ae tw c)<|be (ba (k:=1) aY c c c) c<|p (cu c c)<|J c<|V c c (aH _) (fun g1=>wv<|ae tw c)<|V c c (aH _) (fun g2=>cv<|ba (k:=1) aY (aD c g2) c c)<|V c c (aH _) (fun g3=>wv<|ae lB c)<|V c c (aH _) (fun g4=>cv<|ba (k:=0) aY (aD c g4) c c)<|V c c (aH _) (fun g5=>wv<|jk (aD c g5)<|aD c g5)<|p (dh c c)<|J c<|V c c (aH _) (fun g6=>wv<|ae oT c)<|V c c (aH _) (fun g7=>cv<|ba (k:=1) aY (aD c g7) c c)<|V c c (aH _) (fun g8=>wv<|cu (aD c g8) c)<|p (dh c c)<|J c<|V c c (aH _) (fun g9=>wv<|ae oT c)<|V c c (aH _) (fun g10=>cv<|ba (k:=1) aY (aD c g10) c c)<|V c c (aH _) (fun g11=>wv<|ae lA c)<|V c c (aH _) (fun g12=>cv<|ba (k:=0) aY (aD c g12) c c)<|V c c (aH _) (fun g13=>wv<|jk (aD c g13)<|aD c g13)<|p (dh c c)<|J c<|V c c (aH _) (fun g14=>wv<|ae tv c)<|V c c (aH _) (fun g15=>cv<|ba (k:=1) aY (aD c g15) c c)<|V c c (aH _) (fun g16=>wv<|ag c)<|V c c (aH _) (fun g17=>wv<|v_le (aD c g17)<|aD c g17)<|p (dh c c)<|O c<|av c H (fun k18 H19=>M<|O c<|ai<|Y ⟨false,c,H19⟩) fun k18 H19=>M<|p (ae ik c)<|be (ba (k:=1) aY c c c) c<|p (bL c c)<|O c<|av c H19 (fun k20 H21=>M<|p (ae oS c)<|be (ba (k:=1) aY c c c) c<|p (bL c c)<|O c<|ai<|Y ⟨(a0.fEnd == 0),c,H21⟩) fun k20 H21=>an<|M<|p (ae ik c)<|be (ba (k:=1) aY c c c) c<|p (ae tv c)<|be (ba (k:=1) aY c c c) c<|p (jk c c)<|J c<|V c c (ax _) (fun g22=>wv<|ae oS c)<|V c c (ax _) (fun g23=>cv<|ba (k:=1) aY (aD c g23) c c)<|V c c (ax _) (fun g24=>wv<|bL (aD c g24) c)<|V c c (ax _) (fun g25=>wv<|ag<|aD c g25)<|V c c (dV _ _) (fun g26=>wv<|ae oS c)<|V c c (dV _ _) (fun g27=>cv<|ba (k:=1) aY (aD c g27) c c)<|V c c (dV _ _) (fun g28=>wv<|ae ik c)<|V c c (dV _ _) (fun g29=>cv<|ba (k:=1) aY (aD c g29) c c)<|V c c (dV _ _) (fun g30=>wv<|jk (aD c g30)<|aD c g30)<|V c c (ax _) (fun g31=>wv<|dh (aD c g31)<|aL c<|xi g31)<|p (bT c c)<|O c<|ai<|Y ⟨((decide (a0.fEffect ≥ a0.fBegin)) && ((a0.fEnd == 0) || (decide (a0.fEnd ≥ a0.fEffect)))),c,H21⟩
def fB (a0:aC) (a1:aw) (a2:Int):Bool:=(bif (((((decide (a0.fCore < 0)) || (decide (a0.fCore ≥ a1.fCores))) || (decide (a0.fEnv < 0))) || (decide (a0.fEnv ≥ a1.fEnvs))) || (decide (a0.fBegin ≤ a2))) then (false) else (bif (a0.fEffect == 0) then ((a0.fEnd == 0)) else (((decide (a0.fEffect ≥ a0.fBegin)) && ((a0.fEnd == 0) || (decide (a0.fEnd ≥ a0.fEffect)))))))
theorem pr_hist_one (a0:aC) (a1:aw) (a2:Int) {K:Bool→Hp→Prop} {h:Hp} (k:K (fB a0 a1 a2) h):sh_hist_one a0 a1 a2 K h:=(jZ (K:=K) (fun k=>k) (jZ (K:=K) (fun k=>k) (fun k=>k))) k
theorem ct_hist_one (a0:aC) (a1:aw) (a2:Int) (h:Hp):Ct Tryz.prog n_hist_one #[(.agg (aC.C a0).toArray),(.agg (aw.C a1).toArray),(.int .i64 a2)] h fun v h'=>∃ r,v = aA r∧(r = fB a0 a1 a2∧h' = h):=sim_hist_one a0 a1 a2 (pr_hist_one a0 a1 a2 ⟨rfl,rfl⟩)
def vx (a0:aC) (K:Bool→Hp→Prop):Hp→Prop:=K (decide (a0.fEffect > 0))
theorem sim_hist_Order_c1 (a0:aC) {K:Bool→Hp→Prop} {h:Hp} (H:vx a0 K h):Ct Tryz.prog mY #[(.agg (aC.C a0).toArray)] h fun v h'=>∃ r,v = aA r∧K r h':=au [(.agg (aC.C a0).toArray)] Tryz.func86 c c c fun _=>M<|aa<|cC (l:=aC.C a0) c c c fun b1=>O c<|M<|p (ae ik c)<|be (ba (k:=0) aY c c c) c<|p (qv c c)<|O c<|ai<|Y ⟨decide (a0.fEffect > 0),c,H⟩
def vF (a0:aC):Bool:=((decide (a0.fEffect > 0)))
theorem pr_hist_Order_c1 (a0:aC) {K:Bool→Hp→Prop} {h:Hp} (k:K (vF a0) h):vx a0 K h:=(fun k=>k) k
theorem ct_hist_Order_c1 (a0:aC) (h:Hp):Ct Tryz.prog mY #[(.agg (aC.C a0).toArray)] h fun v h'=>∃ r,v = aA r∧(r = vF a0∧h' = h):=sim_hist_Order_c1 a0 (pr_hist_Order_c1 a0 ⟨rfl,rfl⟩)
def vy (a0:Int) (K:Bool→Hp→Prop):Hp→Prop:=K (a0 != a0)
theorem sim_cmp_isNaN_int (a0:Int) {K:Bool→Hp→Prop} {h:Hp} (H:vy a0 K h):Ct Tryz.prog n_cmp_isNaN_int #[(.int .i64 a0)] h fun v h'=>∃ r,v = aA r∧K r h':=au [(.int .i64 a0)] Tryz.func144 c c c fun _=>M<|O c<|M<|J c<|J c<|p (pb c c)<|O c<|ai<|Y ⟨(a0 != a0),c,H⟩
def eq (a0:Int):Bool:=((a0 != a0))
theorem pr_cmp_isNaN_int (a0:Int) {K:Bool→Hp→Prop} {h:Hp} (k:K (eq a0) h):vy a0 K h:=(fun k=>k) k
theorem wb (a0:Int) (h:Hp):Ct Tryz.prog n_cmp_isNaN_int #[(.int .i64 a0)] h fun v h'=>∃ r,v = aA r∧(r = eq a0∧h' = h):=sim_cmp_isNaN_int a0 (pr_cmp_isNaN_int a0 ⟨rfl,rfl⟩)
def sX (a0:Int) (a1:Int) (K:Int→Hp→Prop):Hp→Prop:=br (eq a0) ( br (eq a1) ( K 0) ( K (-1))) ( br (eq a1) ( K 1) ( br (decide (a0 < a1)) ( K (-1)) ( br (decide (a0 > a1)) ( K 1) ( K 0))))
theorem sim_cmp_Compare_int (a0:Int) (a1:Int) {K:Int→Hp→Prop} {h:Hp} (H:sX a0 a1 K h):Ct Tryz.prog uB #[(.int .i64 a0),(.int .i64 a1)] h fun v h'=>∃ r,v = eC r∧K r h':=au [(.int .i64 a0),(.int .i64 a1)] Tryz.func89 c c c fun _=>M<|O c<|M<|J c<|aa<|cF (vs:=[(.int .i64 a0)]) (bu<|wb a0 _) en_144 c c<|O c<|M<|J c<|aa<|cF (vs:=[(.int .i64 a1)]) (bu<|wb a1 _) en_144 c c<|O c<|ak<|M<|J c<|ad<|av c H (fun k1 H2=>ak<|M<|J c<|ad<|av c H2 (fun k3 H4=>M<|O c<|ai<|Y ⟨0,c,H4⟩) fun k3 H4=>an<|M<|O c<|ai<|Y ⟨(-1),c,H4⟩) fun k1 H2=>an<|ak<|M<|J c<|ad<|av c H2 (fun k5 H6=>M<|O c<|ai<|Y ⟨1,c,H6⟩) fun k5 H6=>an<|ak<|M<|J c<|J c<|p (cu c c)<|ad<|av c H6 (fun k7 H8=>M<|O c<|ai<|Y ⟨(-1),c,H8⟩) fun k7 H8=>an<|ak<|M<|J c<|J c<|p (qv c c)<|ad<|av c H8 (fun k9 H10=>M<|O c<|ai<|Y ⟨1,c,H10⟩) fun k9 H10=>an<|M<|O c<|ai<|Y ⟨0,c,H10⟩
def fM (a0:Int) (a1:Int):Int:=(bif (eq a0) then (bif (eq a1) then (0) else ((-1))) else (bif (eq a1) then (1) else (bif (decide (a0 < a1)) then ((-1)) else (bif (decide (a0 > a1)) then (1) else (0)))))
theorem pr_cmp_Compare_int (a0:Int) (a1:Int) {K:Int→Hp→Prop} {h:Hp} (k:K (fM a0 a1) h):sX a0 a1 K h:=(jZ (K:=K) (jZ (K:=K) (fun k=>k) (fun k=>k)) (jZ (K:=K) (fun k=>k) (jZ (K:=K) (fun k=>k) (jZ (K:=K) (fun k=>k) (fun k=>k))))) k
theorem ct_cmp_Compare_int (a0:Int) (a1:Int) (h:Hp):Ct Tryz.prog uB #[(.int .i64 a0),(.int .i64 a1)] h fun v h'=>∃ r,v = eC r∧(r = fM a0 a1∧h' = h):=sim_cmp_Compare_int a0 a1 (pr_cmp_Compare_int a0 a1 ⟨rfl,rfl⟩)
def sh_judge_user (a0:aC) (K:Bool→Hp→Prop):Hp→Prop:=K (cK ((aB a0.fCall).1))
theorem sim_judge_user (a0:aC) {K:Bool→Hp→Prop} {h:Hp} (H:sh_judge_user a0 K h):Ct Tryz.prog n_judge_user #[(.agg (aC.C a0).toArray)] h fun v h'=>∃ r,v = aA r∧K r h':=au [(.agg (aC.C a0).toArray)] Tryz.func131 c c c fun _=>M<|aa<|cC (l:=aC.C a0) c c c fun b1=>O c<|M<|p (ae mQ c)<|be (bC (k:=0) ff c c c c) c<|aa<|cF (vs:=[(.agg (ah.C a0.fCall).toArray)]) (bu<|jX a0.fCall _) en_53 c c<|J c<|p (aj c c)<|p (aj c c)<|p (ar c)<|O c<|M<|J c<|aa<|cF (vs:=[(.int .i64 ((aB a0.fCall).1))]) (bu<|sn (aB a0.fCall).1 _) en_54 c c<|O c<|ai<|Y ⟨cK (aB a0.fCall).1,c,H⟩
def qj (a0:aC):Bool:=((cK ((aB a0.fCall).1)))
theorem pr_judge_user (a0:aC) {K:Bool→Hp→Prop} {h:Hp} (k:K (qj a0) h):sh_judge_user a0 K h:=(fun k=>k) k
theorem ct_judge_user (a0:aC) (h:Hp):Ct Tryz.prog n_judge_user #[(.agg (aC.C a0).toArray)] h fun v h'=>∃ r,v = aA r∧(r = qj a0∧h' = h):=sim_judge_user a0 (pr_judge_user a0 ⟨rfl,rfl⟩)
def pA (a0:aw) (K:aw→Hp→Prop):Hp→Prop:=K (⟨(IntKind.i64.wrap (1 + ((IntKind.i64.wrap ((a0.fCores.tmod 4) + 4)).tmod 4))),(IntKind.i64.wrap (1 + ((IntKind.i64.wrap ((a0.fEnvs.tmod 3) + 3)).tmod 3))),(IntKind.i64.wrap (1 + ((IntKind.i64.wrap ((a0.fFrames.tmod 6) + 6)).tmod 6)))⟩:aw)
theorem wF (a0:aw) {K:aw→Hp→Prop} {h:Hp} (H:pA a0 K h):Ct Tryz.prog qN #[(.agg (aw.C a0).toArray)] h fun v h'=>∃ r,v = R_api_Size r∧K r h':=au [(.agg (aw.C a0).toArray)] Tryz.func27 c c c fun _=>M<|aa<|cC (l:=aw.C a0) c c c fun b1=>aa<|aM (l:=aw.C (⟨0,0,0⟩:aw)) zero_27 c c fun b2=>ad<|M<|p (ae lB c)<|be (ba (k:=1) aY c c c) c<|p (v_rem c c (by decide))<|p (bq c c)<|p (v_rem c c (by decide))<|p (bq c c)<|p (ae lA c)<|be (ba (k:=1) aY c c c) c<|p (v_rem c c (by decide))<|p (bq c c)<|p (v_rem c c (by decide))<|p (bq c c)<|p (ae tz c)<|be (ba (k:=1) aY c c c) c<|p (v_rem c c (by decide))<|p (bq c c)<|p (v_rem c c (by decide))<|p (bq c c)<|p (bc c<|tI (IntKind.i64.wrap (1 + ((IntKind.i64.wrap ((a0.fCores.tmod 4) + 4)).tmod 4))) (IntKind.i64.wrap (1 + ((IntKind.i64.wrap ((a0.fEnvs.tmod 3) + 3)).tmod 3)))<|IntKind.i64.wrap (1 + ((IntKind.i64.wrap ((a0.fFrames.tmod 6) + 6)).tmod 6)))<|aa<|aO (k:=0) (vs:=aw.C (⟨(IntKind.i64.wrap (1 + ((IntKind.i64.wrap ((a0.fCores.tmod 4) + 4)).tmod 4))),(IntKind.i64.wrap (1 + ((IntKind.i64.wrap ((a0.fEnvs.tmod 3) + 3)).tmod 3))),(IntKind.i64.wrap (1 + ((IntKind.i64.wrap ((a0.fFrames.tmod 6) + 6)).tmod 6)))⟩:aw)) inf_27 c c c c c c c<|ad<|ai<|bw (mq c<|bB (k:=0) c oW c c) ⟨(⟨(IntKind.i64.wrap (1 + ((IntKind.i64.wrap ((a0.fCores.tmod 4) + 4)).tmod 4))),(IntKind.i64.wrap (1 + ((IntKind.i64.wrap ((a0.fEnvs.tmod 3) + 3)).tmod 3))),(IntKind.i64.wrap (1 + ((IntKind.i64.wrap ((a0.fFrames.tmod 6) + 6)).tmod 6)))⟩:aw),c,H⟩
def bW (a0:aw):aw:=((⟨(IntKind.i64.wrap (1 + ((IntKind.i64.wrap ((a0.fCores.tmod 4) + 4)).tmod 4))),(IntKind.i64.wrap (1 + ((IntKind.i64.wrap ((a0.fEnvs.tmod 3) + 3)).tmod 3))),(IntKind.i64.wrap (1 + ((IntKind.i64.wrap ((a0.fFrames.tmod 6) + 6)).tmod 6)))⟩:aw))
theorem pr_messuagelaw16_Size (a0:aw) {K:aw→Hp→Prop} {h:Hp} (k:K (bW a0) h):pA a0 K h:=(fun k=>k) k
theorem ct_messuagelaw16_Size (a0:aw) (h:Hp):Ct Tryz.prog qN #[(.agg (aw.C a0).toArray)] h fun v h'=>∃ r,v = R_api_Size r∧(r = bW a0∧h' = h):=wF a0 (pr_messuagelaw16_Size a0 ⟨rfl,rfl⟩)
end Go.Proofs.YtmggcfijlpldpaaGreatDoor
