/- Part of the proof of: The law RaceGrant returns true for every input, and leaves its arguments as they were. -/
import Derived.Test.YtmggcfijlpldpaaGreatDoorRaceGrant02
set_option linter.all false
set_option maxRecDepth 20000
namespace Go.Proofs.YtmggcfijlpldpaaGreatDoor
open Go Mb
set_option linter.unusedVariables false
structure ah where
  e0:Int
  e1:Int
  e2:Int
  e3:Int
  e4:Int
def ah.C (x:ah):List Value:=[.int .u64 x.e0,.int .u64 x.e1,.int .u64 x.e2,.int .u64 x.e3,.int .u64 x.e4]
structure ab where
  fErr:Int
  fVal:Int
def ab.C (x:ab):List Value:=[.int .i64 x.fErr,.int .u64 x.fVal]
structure ak where
  fEnv:Int
  fPage:Int
  fFrame:Int
  fRights:Int
def ak.C (x:ak):List Value:=[.int .i64 x.fEnv,.int .i64 x.fPage,.int .i64 x.fFrame,.int .i64 x.fRights]
structure ar where
  fCore:Int
  fEnv:Int
  fCall:ah
  fBegin:Int
  fEffect:Int
  fEnd:Int
  fAnswer:ab
  fLine:ak
def ar.C (x:ar):List Value:=[.int .i64 x.fCore,.int .i64 x.fEnv,.int .u64 x.fCall.e0,.int .u64 x.fCall.e1,.int .u64 x.fCall.e2,.int .u64 x.fCall.e3,.int .u64 x.fCall.e4,.int .i64 x.fBegin,.int .i64 x.fEffect,.int .i64 x.fEnd,.int .i64 x.fAnswer.fErr,.int .u64 x.fAnswer.fVal,.int .i64 x.fLine.fEnv,.int .i64 x.fLine.fPage,.int .i64 x.fLine.fFrame,.int .i64 x.fLine.fRights]
structure lw where
  fat:Int
  fenv:Int
  fc:ah
  ftold:Bool
  fepoch:Int
def lw.C (x:lw):List Value:=[.int .i64 x.fat,.int .i64 x.fenv,.int .u64 x.fc.e0,.int .u64 x.fc.e1,.int .u64 x.fc.e2,.int .u64 x.fc.e3,.int .u64 x.fc.e4,.bool x.ftold,.int .u64 x.fepoch]
structure al where
  fFrame:Int
  fSlot:Int
  fRights:Int
def al.C (x:al):List Value:=[.int .i64 x.fFrame,.int .i64 x.fSlot,.int .i64 x.fRights]
structure au where
  fFrame:Int
  fRights:Int
  fEnv:Int
  fSlot:Int
def au.C (x:au):List Value:=[.int .i64 x.fFrame,.int .i64 x.fRights,.int .i64 x.fEnv,.int .i64 x.fSlot]
structure ce where
  fl:ak
  fwhen:Int
def ce.C (x:ce):List Value:=[.int .i64 x.fl.fEnv,.int .i64 x.fl.fPage,.int .i64 x.fl.fFrame,.int .i64 x.fl.fRights,.int .i64 x.fwhen]
structure iP where
  e0:ce
  e1:ce
def iP.C (x:iP):List Value:=[.int .i64 x.e0.fl.fEnv,.int .i64 x.e0.fl.fPage,.int .i64 x.e0.fl.fFrame,.int .i64 x.e0.fl.fRights,.int .i64 x.e0.fwhen,.int .i64 x.e1.fl.fEnv,.int .i64 x.e1.fl.fPage,.int .i64 x.e1.fl.fFrame,.int .i64 x.e1.fl.fRights,.int .i64 x.e1.fwhen]
structure aF where
  fEnv:Int
  fSlot:Int
def aF.C (x:aF):List Value:=[.int .i64 x.fEnv,.int .i64 x.fSlot]
structure aA where
  fCores:Int
  fEnvs:Int
  fFrames:Int
def aA.C (x:aA):List Value:=[.int .i64 x.fCores,.int .i64 x.fEnvs,.int .i64 x.fFrames]
structure sk where
  fl:Sl
def sk.C (x:sk):List Value:=[sv x.fl]
structure nI where
  frefs:Sl
def nI.C (x:nI):List Value:=[sv x.frefs]
structure nL where
  fl:Sl
def nL.C (x:nL):List Value:=[sv x.fl]
structure gc where
  fs:aA
  fm:Ptr
  ftables:Sl
  fpool:Ptr
  fcaps:Ptr
def gc.C (x:gc):List Value:=[.int .i64 x.fs.fCores,.int .i64 x.fs.fEnvs,.int .i64 x.fs.fFrames,pv x.fm,sv x.ftables,pv x.fpool,pv x.fcaps]
structure km where
  fes:Sl
  fs:aA
  fk:Ptr
def km.C (x:km):List Value:=[sv x.fes,.int .i64 x.fs.fCores,.int .i64 x.fs.fEnvs,.int .i64 x.fs.fFrames,pv x.fk]
structure nJ where
  fl:Sl
def nJ.C (x:nJ):List Value:=[sv x.fl]
structure jv where
  fowner:Sl
  fheard:Sl
def jv.C (x:jv):List Value:=[sv x.fowner,sv x.fheard]
structure fy where
  fp:Ptr
  fenvs:Int
  ftlbs:Sl
  fboxes:Ptr
  fepochs:Ptr
  fcalls:Sl
  fevents:Sl
  fnow:Int
def fy.C (x:fy):List Value:=[pv x.fp,.int .i64 x.fenvs,sv x.ftlbs,pv x.fboxes,pv x.fepochs,sv x.fcalls,sv x.fevents,.int .i64 x.fnow]
structure dL where
  fKind:Int
  fCore:Int
  fEnv:Int
  fCall:ah
  fSet:Int
  fWay:Int
def dL.C (x:dL):List Value:=[.int .i64 x.fKind,.int .i64 x.fCore,.int .i64 x.fEnv,.int .u64 x.fCall.e0,.int .u64 x.fCall.e1,.int .u64 x.fCall.e2,.int .u64 x.fCall.e3,.int .u64 x.fCall.e4,.int .i64 x.fSet,.int .i64 x.fWay]
structure bU where
  fCode:Int
  fEnv:Int
  fCall:ah
  fErr:Value
def bU.C (x:bU):List Value:=[.int .i64 x.fCode,.int .i64 x.fEnv,.int .u64 x.fCall.e0,.int .u64 x.fCall.e1,.int .u64 x.fCall.e2,.int .u64 x.fCall.e3,.int .u64 x.fCall.e4,x.fErr]
structure aG where
  ftyp_:Ptr
  fptr:Ptr
  fflag:Int
def aG.C (x:aG):List Value:=[pv x.ftyp_,pv x.fptr,.int .u64 x.fflag]
structure nK where
  fv:Int
  fn:Int
def nK.C (x:nK):List Value:=[.int .u64 x.fv,.int .i64 x.fn]
structure kl where
  fdrawn:Ptr
  fpassed:Ptr
def kl.C (x:kl):List Value:=[pv x.fdrawn,pv x.fpassed]
structure qH where
  fIs:Bool
  fFrame:Int
  fRights:Int
  fEnv:Int
  fSlot:Int
def qH.C (x:qH):List Value:=[.bool x.fIs,.int .i64 x.fFrame,.int .i64 x.fRights,.int .i64 x.fEnv,.int .i64 x.fSlot]
structure ig where
  fEnv:Int
  fSlot:Int
def ig.C (x:ig):List Value:=[.int .i64 x.fEnv,.int .i64 x.fSlot]
def dN (r:Sl):Value:=(sv r)
abbrev eF:Nat:=43
abbrev eK:Nat:=47
theorem fld_89_6:Fld Tryz.prog 89 6 6:=bW (m:=1) Tryz.underlying89 rfl rfl (by kernel_rfl) (by decide)
theorem en_47:aJ Tryz.prog 47:=⟨_,Tryz.func47,by decide,rfl⟩
theorem sc_43:Sc Tryz.prog 43:=⟨⟨_,Tryz.underlying43,rfl⟩,bE (by kernel_rfl)⟩
abbrev eL:Nat:=20
def az (r:Bool):Value:=(.bool r)
theorem sW:Fld Tryz.prog 89 5 5:=bW (m:=1) Tryz.underlying89 rfl rfl (by kernel_rfl) (by decide)
theorem sc_87:Sc Tryz.prog 87:=⟨⟨_,Tryz.underlying87,rfl⟩,bE (by kernel_rfl)⟩
abbrev jm:Nat:=52
theorem slc_87:Slc Tryz.prog 87 96 1:=⟨Tryz.underlying87,bE (by kernel_rfl)⟩
theorem sc_96:Sc Tryz.prog 96:=⟨⟨_,Tryz.underlying96,rfl⟩,bE (by kernel_rfl)⟩
theorem en_52:aJ Tryz.prog 52:=⟨_,Tryz.func52,by decide,rfl⟩
abbrev fJ:Nat:=26
theorem fld_89_1:Fld Tryz.prog 89 1 1:=bW (m:=1) Tryz.underlying89 rfl rfl (by kernel_rfl) (by decide)
theorem oI:Fld Tryz.prog 89 7 7:=bW (m:=1) Tryz.underlying89 rfl rfl (by kernel_rfl) (by decide)
theorem ci:Tryz.prog.follows .mixedOrders = true:=by kernel_rfl
theorem fj:Ag Tryz.prog 34 5:=⟨⟨_,Tryz.underlying34,rfl⟩,bE (by kernel_rfl)⟩
theorem build_54_0_1_2_3 (y0:Int) (y1:Int) (y2:ah) (y3:Int):∀ w,(Instr.build 54 #[(0,(.int .i64 y0)),(1,(.int .i64 y1)),(2,(.agg (ah.C y2).toArray)),(3,(.int .i64 y3))]).run Tryz.prog w = .ok (.agg (ar.C (⟨y0,y1,y2,y3,0,0,(⟨0,0⟩:ab),(⟨0,0,0,0⟩:ak)⟩:ar)).toArray) w:=fun _=>by kernel_rfl
theorem build_98_0_1_2 (y0:Int) (y1:Int) (y2:ah):∀ w,(Instr.build 98 #[(0,(.int .i64 y0)),(1,(.int .i64 y1)),(2,(.agg (ah.C y2).toArray))]).run Tryz.prog w = .ok (.agg (lw.C (⟨y0,y1,y2,false,0⟩:lw)).toArray) w:=fun _=>by kernel_rfl
theorem inf_96:∃ i,Tryz.prog.info? 96 = some i∧i.size = 1:=bE (by kernel_rfl)
abbrev cH:Nat:=98
theorem inf_43:∃ i,Tryz.prog.info? 43 = some i∧i.size = 1:=bE (by kernel_rfl)
theorem aW:Sc Tryz.prog 3:=⟨⟨_,Tryz.underlying3,rfl⟩,bE (by kernel_rfl)⟩
theorem qB:∃ i,Tryz.prog.info? 3 = some i∧i.size = 1:=bE (by kernel_rfl)
theorem en_26:aJ Tryz.prog 26:=⟨_,Tryz.func26,by decide,rfl⟩
abbrev iG:Nat:=22
def bI (r:Int × Bool):Value:=.tuple #[(.int .i64 r.1),(.bool r.2)]
theorem cX:Arr Tryz.prog 34 5 22 1:=⟨Tryz.underlying34,bE (by kernel_rfl)⟩
theorem ck:Sc Tryz.prog 22:=⟨⟨_,Tryz.underlying22,rfl⟩,bE (by kernel_rfl)⟩
abbrev n_word_Kind:Nat:=53
abbrev n_word_User:Nat:=54
def ic (r:Ptr):Value:=(pv r)
abbrev jZ:Nat:=211
abbrev kX:Nat:=96
def ct (r:Sl):Value:=(sv r)
abbrev dB:Nat:=40
abbrev rL:Nat:=147
def ah.get (x:ah) (i:Int):Int:=match i.toNat with | 0=>x.e0 | 1=>x.e1 | 2=>x.e2 | 3=>x.e3 | 4=>x.e4 | _=>x.e4
theorem at_34 (x:ah) (i:Int) (h:0 ≤ i∧i < 5):(ah.C x)[0 + i.toNat * 1]? = some (.int .u64 (ah.get x i)):=by
  obtain ⟨n,rfl⟩:=Int.eq_ofNat_of_zero_le h.1
  have h2:n < 5:=by omega
  rcases n with _ | (_ | (_ | (_ | (_ | _)))) <;> first | rfl | omega
abbrev mQ:Nat:=155
abbrev n_word_Rights:Nat:=186
theorem en_155:aJ Tryz.prog 155:=⟨_,Tryz.func155,by decide,rfl⟩
theorem en_186:aJ Tryz.prog 186:=⟨_,Tryz.func186,by decide,rfl⟩
abbrev n_word_fits:Nat:=148
def aZ (r:Int):Value:=(.int .i64 r)
theorem gV:Slc Tryz.prog 40 3 1:=⟨Tryz.underlying40,bE (by kernel_rfl)⟩
theorem en_148:aJ Tryz.prog 148:=⟨_,Tryz.func148,by decide,rfl⟩
theorem en_147:aJ Tryz.prog 147:=⟨_,Tryz.func147,by decide,rfl⟩
theorem en_53:aJ Tryz.prog 53:=⟨_,Tryz.func53,by decide,rfl⟩
abbrev gH:Nat:=98
theorem vt:Fld Tryz.prog 149 0 0:=bW (m:=3) Tryz.underlying149 rfl rfl (by kernel_rfl) (by decide)
theorem mE:Fld Tryz.prog 27 1 1:=bW (m:=1) Tryz.underlying27 rfl rfl (by kernel_rfl) (by decide)
abbrev jM:Nat:=112
abbrev n_table_is:Nat:=150
def cr (r:al × Bool):Value:=.tuple #[(.agg (al.C r.1).toArray),(.bool r.2)]
theorem eD:∃ i,Tryz.prog.info? 121 = some i∧i.zero = some (.agg (al.C (⟨0,0,0⟩:al)).toArray):=kC (by kernel_rfl)
theorem ki  : ∀ w,(Instr.build 121 #[]).run Tryz.prog w = .ok (.agg (al.C (⟨0,0,0⟩:al)).toArray) w:=fun _=>by kernel_rfl
theorem dE:Ag Tryz.prog 121 3:=⟨⟨_,Tryz.underlying121,rfl⟩,bE (by kernel_rfl)⟩
theorem cR:∃ i,Tryz.prog.info? 121 = some i∧i.size = 3:=bE (by kernel_rfl)
theorem kh:Fld Tryz.prog 211 0 0:=bW (m:=24) Tryz.underlying211 rfl rfl (by kernel_rfl) (by decide)
theorem rW:Arr Tryz.prog 122 8 121 3:=⟨Tryz.underlying122,bE (by kernel_rfl)⟩
theorem dG:Fld Tryz.prog 121 2 2:=bW (m:=1) Tryz.underlying121 rfl rfl (by kernel_rfl) (by decide)
theorem en_150:aJ Tryz.prog 150:=⟨_,Tryz.func150,by decide,rfl⟩
abbrev eO:Nat:=153
theorem eS:Fld Tryz.prog 149 2 4:=bW (m:=1) Tryz.underlying149 rfl rfl (by kernel_rfl) (by decide)
theorem mG:Slc Tryz.prog 145 153 1:=⟨Tryz.underlying145,bE (by kernel_rfl)⟩
theorem en_153:aJ Tryz.prog 153:=⟨_,Tryz.func153,by decide,rfl⟩
theorem qO:Sc Tryz.prog 153:=⟨⟨_,Tryz.underlying153,rfl⟩,bE (by kernel_rfl)⟩
theorem mb:Sc Tryz.prog 145:=⟨⟨_,Tryz.underlying145,rfl⟩,bE (by kernel_rfl)⟩
theorem en_112:aJ Tryz.prog 112:=⟨_,Tryz.func112,by decide,rfl⟩
abbrev fH:Nat:=103
theorem gR:Fld Tryz.prog 205 0 0:=bW (m:=1) Tryz.underlying205 rfl rfl (by kernel_rfl) (by decide)
theorem pI:Sc Tryz.prog 203:=⟨⟨_,Tryz.underlying203,rfl⟩,bE (by kernel_rfl)⟩
abbrev hH:Nat:=145
def bZ (r:au × Bool):Value:=.tuple #[(.agg (au.C r.1).toArray),(.bool r.2)]
theorem fO:∃ i,Tryz.prog.info? 37 = some i∧i.zero = some (.agg (au.C (⟨0,0,0,0⟩:au)).toArray):=kC (by kernel_rfl)
theorem build_37  : ∀ w,(Instr.build 37 #[]).run Tryz.prog w = .ok (.agg (au.C (⟨0,0,0,0⟩:au)).toArray) w:=fun _=>by kernel_rfl
theorem vH:Ag Tryz.prog 37 4:=⟨⟨_,Tryz.underlying37,rfl⟩,bE (by kernel_rfl)⟩
theorem ff:∃ i,Tryz.prog.info? 37 = some i∧i.size = 4:=bE (by kernel_rfl)
theorem nX:Slc Tryz.prog 203 202 32:=⟨Tryz.underlying203,bE (by kernel_rfl)⟩
theorem qe:Arr Tryz.prog 202 8 37 4:=⟨Tryz.underlying202,bE (by kernel_rfl)⟩
theorem fE:Fld Tryz.prog 37 1 1:=bW (m:=1) Tryz.underlying37 rfl rfl (by kernel_rfl) (by decide)
theorem en_145:aJ Tryz.prog 145:=⟨_,Tryz.func145,by decide,rfl⟩
abbrev dT:Nat:=91
theorem fq:Fld Tryz.prog 149 4 6:=bW (m:=1) Tryz.underlying149 rfl rfl (by kernel_rfl) (by decide)
theorem en_91:aJ Tryz.prog 91:=⟨_,Tryz.func91,by decide,rfl⟩
theorem gY:Sc Tryz.prog 147:=⟨⟨_,Tryz.underlying147,rfl⟩,bE (by kernel_rfl)⟩
abbrev fI:Nat:=45
abbrev n_pte_May:Nat:=161
theorem en_161:aJ Tryz.prog 161:=⟨_,Tryz.func161,by decide,rfl⟩
abbrev n_pte_Within:Nat:=106
theorem fX:Fld Tryz.prog 98 2 2:=bW (m:=5) Tryz.underlying98 rfl rfl (by kernel_rfl) (by decide)
theorem oJ:Fld Tryz.prog 89 0 0:=bW (m:=1) Tryz.underlying89 rfl rfl (by kernel_rfl) (by decide)
theorem mD:Fld Tryz.prog 37 2 2:=bW (m:=1) Tryz.underlying37 rfl rfl (by kernel_rfl) (by decide)
theorem fld_37_3:Fld Tryz.prog 37 3 3:=bW (m:=1) Tryz.underlying37 rfl rfl (by kernel_rfl) (by decide)
theorem en_45:aJ Tryz.prog 45:=⟨_,Tryz.func45,by decide,rfl⟩
theorem tX:Sc Tryz.prog 83:=⟨⟨_,Tryz.underlying83,rfl⟩,bE (by kernel_rfl)⟩
abbrev fF:Nat:=37
theorem vo:Fld Tryz.prog 98 1 1:=bW (m:=1) Tryz.underlying98 rfl rfl (by kernel_rfl) (by decide)
abbrev pL:Nat:=160
def vJ (r:al):Value:=(.agg (al.C r).toArray)
theorem pS:Fld Tryz.prog 121 1 1:=bW (m:=1) Tryz.underlying121 rfl rfl (by kernel_rfl) (by decide)
theorem mj:aJ Tryz.prog 106:=⟨_,Tryz.func106,by decide,rfl⟩
theorem en_160:aJ Tryz.prog 160:=⟨_,Tryz.func160,by decide,rfl⟩
abbrev lK:Nat:=104
theorem en_104:aJ Tryz.prog 104:=⟨_,Tryz.func104,by decide,rfl⟩
theorem fld_98_3:Fld Tryz.prog 98 3 7:=bW (m:=1) Tryz.underlying98 rfl rfl (by kernel_rfl) (by decide)
theorem sc_4:Sc Tryz.prog 4:=⟨⟨_,Tryz.underlying4,rfl⟩,bE (by kernel_rfl)⟩
theorem en_103:aJ Tryz.prog 103:=⟨_,Tryz.func103,by decide,rfl⟩
abbrev lJ:Nat:=99
def bG (r:Int × Bool):Value:=.tuple #[(.int .u64 r.1),(.bool r.2)]
def al.eqb (x y:al):Bool:=((x.fFrame == y.fFrame) && ((x.fSlot == y.fSlot) && ((x.fRights == y.fRights) && true)))
theorem eqr_121 (n:Nat) (x y:al):EqR Tryz.prog (n + 2) 121 (.agg (al.C x).toArray) (.agg (al.C y).toArray) (al.eqb x y):=xa Tryz.underlying121 (by kernel_rfl) (lr (by decide) (gO aW rfl) (gO aW rfl) (ja (n:=n + 0) Tryz.underlying3) (lr (by decide) (gO aW rfl) (gO aW rfl) (ja (n:=n + 0) Tryz.underlying3) (lr (by decide) (gO aW rfl) (gO aW rfl) (ja (n:=n + 0) Tryz.underlying3) eqf_nil)))
theorem eqg_121:Tryz.prog.eqGuardType Tryz.prog.depth 121 = false:=by kernel_rfl
theorem nH:Fld Tryz.prog 121 0 0:=bW (m:=1) Tryz.underlying121 rfl rfl (by kernel_rfl) (by decide)
abbrev n_pte_Put:Nat:=149
theorem en_149:aJ Tryz.prog 149:=⟨_,Tryz.func149,by decide,rfl⟩
abbrev dS:Nat:=100
def R_api_Line (r:ak):Value:=(.agg (ak.C r).toArray)
theorem kD:∃ i,Tryz.prog.info? 52 = some i∧i.zero = some (.agg (ak.C (⟨0,0,0,0⟩:ak)).toArray):=kC (by kernel_rfl)
theorem build_52_0 (y0:Int):∀ w,(Instr.build 52 #[(0,(.int .i64 y0))]).run Tryz.prog w = .ok (.agg (ak.C (⟨y0,0,0,0⟩:ak)).toArray) w:=fun _=>by kernel_rfl
theorem gQ:Ag Tryz.prog 52 4:=⟨⟨_,Tryz.underlying52,rfl⟩,bE (by kernel_rfl)⟩
theorem fB:∃ i,Tryz.prog.info? 52 = some i∧i.size = 4:=bE (by kernel_rfl)
abbrev n_tlb_empty:Nat:=146
def jE (r:Ptr):Value:=(pv r)
theorem fld_166_0:Fld Tryz.prog 166 0 0:=bW (m:=40) Tryz.underlying166 rfl rfl (by kernel_rfl) (by decide)
theorem arr_164:Arr Tryz.prog 164 4 163 10:=⟨Tryz.underlying164,bE (by kernel_rfl)⟩
theorem arr_163:Arr Tryz.prog 163 2 162 5:=⟨Tryz.underlying163,bE (by kernel_rfl)⟩
theorem pR:Fld Tryz.prog 162 0 0:=bW (m:=4) Tryz.underlying162 rfl rfl (by kernel_rfl) (by decide)
theorem jY:Fld Tryz.prog 52 0 0:=bW (m:=1) Tryz.underlying52 rfl rfl (by kernel_rfl) (by decide)
theorem mC:Fld Tryz.prog 52 1 1:=bW (m:=1) Tryz.underlying52 rfl rfl (by kernel_rfl) (by decide)
abbrev ow:Nat:=162
theorem en_146:aJ Tryz.prog 146:=⟨_,Tryz.func146,by decide,rfl⟩
theorem en_162:aJ Tryz.prog 162:=⟨_,Tryz.func162,by decide,rfl⟩
abbrev mI:Nat:=107
def fz (r:ak × Bool):Value:=.tuple #[(.agg (ak.C r.1).toArray),(.bool r.2)]
theorem lv  : ∀ w,(Instr.build 52 #[]).run Tryz.prog w = .ok (.agg (ak.C (⟨0,0,0,0⟩:ak)).toArray) w:=fun _=>by kernel_rfl
abbrev ox:Nat:=151
abbrev n_pte_Lets:Nat:=152
theorem fld_162_1:Fld Tryz.prog 162 1 4:=bW (m:=1) Tryz.underlying162 rfl rfl (by kernel_rfl) (by decide)
abbrev sN:Nat:=187
theorem lp:Fld Tryz.prog 52 2 2:=bW (m:=1) Tryz.underlying52 rfl rfl (by kernel_rfl) (by decide)
theorem qE:Fld Tryz.prog 52 3 3:=bW (m:=1) Tryz.underlying52 rfl rfl (by kernel_rfl) (by decide)
theorem fld_166_1:Fld Tryz.prog 166 1 40:=bW (m:=1) Tryz.underlying166 rfl rfl (by kernel_rfl) (by decide)
theorem build_162_0_1 (y0:ak) (y1:Int):∀ w,(Instr.build 162 #[(0,(.agg (ak.C y0).toArray)),(1,(.int .i64 y1))]).run Tryz.prog w = .ok (.agg (ce.C (⟨y0,y1⟩:ce)).toArray) w:=fun _=>by kernel_rfl
theorem inf_162:∃ i,Tryz.prog.info? 162 = some i∧i.size = 5:=bE (by kernel_rfl)
theorem en_187:aJ Tryz.prog 187:=⟨_,Tryz.func187,by decide,rfl⟩
abbrev oy:Nat:=154
theorem en_107:aJ Tryz.prog 107:=⟨_,Tryz.func107,by decide,rfl⟩
theorem vC (y0:Int) (y1:Int) (y2:Int) (y3:Int):∀ w,(Instr.build 52 #[(0,(.int .i64 y0)),(1,(.int .i64 y1)),(2,(.int .i64 y2)),(3,(.int .i64 y3))]).run Tryz.prog w = .ok (.agg (ak.C (⟨y0,y1,y2,y3⟩:ak)).toArray) w:=fun _=>by kernel_rfl
theorem en_154:aJ Tryz.prog 154:=⟨_,Tryz.func154,by decide,rfl⟩
theorem en_152:aJ Tryz.prog 152:=⟨_,Tryz.func152,by decide,rfl⟩
theorem en_151:aJ Tryz.prog 151:=⟨_,Tryz.func151,by decide,rfl⟩
abbrev ub:Nat:=101
def eo (r:Int):Value:=(.int .i64 r)
theorem sj:Fld Tryz.prog 209 0 0:=bW (m:=1) Tryz.underlying209 rfl rfl (by kernel_rfl) (by decide)
theorem kQ:Sc Tryz.prog 155:=⟨⟨_,Tryz.underlying155,rfl⟩,bE (by kernel_rfl)⟩
abbrev vm:Nat:=212
def sm (r:Ptr):Value:=(pv r)
theorem lA:Slc Tryz.prog 155 158 1:=⟨Tryz.underlying155,bE (by kernel_rfl)⟩
theorem rI:Slc Tryz.prog 158 22 1:=⟨Tryz.underlying158,bE (by kernel_rfl)⟩
theorem qN:Sc Tryz.prog 158:=⟨⟨_,Tryz.underlying158,rfl⟩,bE (by kernel_rfl)⟩
theorem en_212:aJ Tryz.prog 212:=⟨_,Tryz.func212,by decide,rfl⟩
abbrev lH:Nat:=188
theorem en_188:aJ Tryz.prog 188:=⟨_,Tryz.func188,by decide,rfl⟩
abbrev hG:Nat:=156
theorem inf_22:∃ i,Tryz.prog.info? 22 = some i∧i.size = 1:=bE (by kernel_rfl)
abbrev fw:Nat:=157
theorem en_157:aJ Tryz.prog 157:=⟨_,Tryz.func157,by decide,rfl⟩
theorem en_156:aJ Tryz.prog 156:=⟨_,Tryz.func156,by decide,rfl⟩
abbrev pY:Nat:=158
abbrev pZ:Nat:=159
def bf (r:ab × Bool):Value:=.tuple #[(.agg (ab.C r.1).toArray),(.bool r.2)]
theorem cQ:∃ i,Tryz.prog.info? 30 = some i∧i.zero = some (.agg (ab.C (⟨0,0⟩:ab)).toArray):=kC (by kernel_rfl)
theorem th  : ∀ w,(Instr.build 30 #[]).run Tryz.prog w = .ok (.agg (ab.C (⟨0,0⟩:ab)).toArray) w:=fun _=>by kernel_rfl
theorem cx:Ag Tryz.prog 30 2:=⟨⟨_,Tryz.underlying30,rfl⟩,bE (by kernel_rfl)⟩
theorem bJ:∃ i,Tryz.prog.info? 30 = some i∧i.size = 2:=bE (by kernel_rfl)
theorem jQ (y1:Int):∀ w,(Instr.build 30 #[(1,(.int .u64 y1))]).run Tryz.prog w = .ok (.agg (ab.C (⟨0,y1⟩:ab)).toArray) w:=fun _=>by kernel_rfl
theorem lR:Fld Tryz.prog 149 1 3:=bW (m:=1) Tryz.underlying149 rfl rfl (by kernel_rfl) (by decide)
theorem wy:Sc Tryz.prog 144:=⟨⟨_,Tryz.underlying144,rfl⟩,bE (by kernel_rfl)⟩
theorem en_158:aJ Tryz.prog 158:=⟨_,Tryz.func158,by decide,rfl⟩
theorem en_159:aJ Tryz.prog 159:=⟨_,Tryz.func159,by decide,rfl⟩
theorem en_54:aJ Tryz.prog 54:=⟨_,Tryz.func54,by decide,rfl⟩
abbrev eP:Nat:=102
def eC (r:ab × ak):Value:=.tuple #[(.agg (ab.C r.1).toArray),(.agg (ak.C r.2).toArray)]
theorem iW (y0:Int):∀ w,(Instr.build 30 #[(0,(.int .i64 y0))]).run Tryz.prog w = .ok (.agg (ab.C (⟨y0,0⟩:ab)).toArray) w:=fun _=>by kernel_rfl
theorem jW:Fld Tryz.prog 89 2 2:=bW (m:=1) Tryz.underlying89 rfl rfl (by kernel_rfl) (by decide)
theorem slc_84:Slc Tryz.prog 84 94 1:=⟨Tryz.underlying84,bE (by kernel_rfl)⟩
theorem uF:aJ Tryz.prog 102:=⟨_,Tryz.func102,by decide,rfl⟩
theorem en_101:aJ Tryz.prog 101:=⟨_,Tryz.func101,by decide,rfl⟩
theorem sc_94:Sc Tryz.prog 94:=⟨⟨_,Tryz.underlying94,rfl⟩,bE (by kernel_rfl)⟩
theorem sc_84:Sc Tryz.prog 84:=⟨⟨_,Tryz.underlying84,rfl⟩,bE (by kernel_rfl)⟩
theorem en_100:aJ Tryz.prog 100:=⟨_,Tryz.func100,by decide,rfl⟩
theorem en_99:aJ Tryz.prog 99:=⟨_,Tryz.func99,by decide,rfl⟩
theorem en_96:aJ Tryz.prog 96:=⟨_,Tryz.func96,by decide,rfl⟩
theorem en_98:aJ Tryz.prog 98:=⟨_,Tryz.func98,by decide,rfl⟩
abbrev mV:Nat:=55
def R_ (_:Unit):Value:=.tuple #[]
theorem fld_98_0:Fld Tryz.prog 98 0 0:=bW (m:=1) Tryz.underlying98 rfl rfl (by kernel_rfl) (by decide)
theorem qL:Slc Tryz.prog 43 54 16:=⟨Tryz.underlying43,bE (by kernel_rfl)⟩
theorem iO:Fld Tryz.prog 54 4 8:=bW (m:=1) Tryz.underlying54 rfl rfl (by kernel_rfl) (by decide)
theorem qC:Fld Tryz.prog 54 5 9:=bW (m:=1) Tryz.underlying54 rfl rfl (by kernel_rfl) (by decide)
theorem jX:Fld Tryz.prog 54 6 10:=bW (m:=2) Tryz.underlying54 rfl rfl (by kernel_rfl) (by decide)
theorem fY:Fld Tryz.prog 54 7 12:=bW (m:=4) Tryz.underlying54 rfl rfl (by kernel_rfl) (by decide)
abbrev lL:Nat:=56
abbrev oz:Nat:=57
def qI (r:Sl):Value:=(sv r)
abbrev t_2_tlb_line:Nat:=163
def R_tlb_line (r:ce):Value:=(.agg (ce.C r).toArray)
theorem zero_162:∃ i,Tryz.prog.info? 162 = some i∧i.zero = some (.agg (ce.C (⟨(⟨0,0,0,0⟩:ak),0⟩:ce)).toArray):=kC (by kernel_rfl)
abbrev qm:Nat:=173
theorem ag_163:Ag Tryz.prog 163 10:=⟨⟨_,Tryz.underlying163,rfl⟩,bE (by kernel_rfl)⟩
abbrev qP:Nat:=105
theorem slc_173:Slc Tryz.prog 173 52 4:=⟨Tryz.underlying173,bE (by kernel_rfl)⟩
theorem en_105:aJ Tryz.prog 105:=⟨_,Tryz.func105,by decide,rfl⟩
abbrev kI:Nat:=58
theorem fld_160_1:Fld Tryz.prog 160 1 1:=bW (m:=1) Tryz.underlying160 rfl rfl (by kernel_rfl) (by decide)
abbrev kJ:Nat:=108
def gC (r:Int):Value:=(.int .u64 r)
theorem fld_160_0:Fld Tryz.prog 160 0 0:=bW (m:=1) Tryz.underlying160 rfl rfl (by kernel_rfl) (by decide)
theorem sc_40:Sc Tryz.prog 40:=⟨⟨_,Tryz.underlying40,rfl⟩,bE (by kernel_rfl)⟩
abbrev fK:Nat:=109
theorem en_109:aJ Tryz.prog 109:=⟨_,Tryz.func109,by decide,rfl⟩
theorem inf_40:∃ i,Tryz.prog.info? 40 = some i∧i.size = 1:=bE (by kernel_rfl)
theorem en_108:aJ Tryz.prog 108:=⟨_,Tryz.func108,by decide,rfl⟩
abbrev iI:Nat:=59
theorem lQ:Fld Tryz.prog 157 0 0:=bW (m:=1) Tryz.underlying157 rfl rfl (by kernel_rfl) (by decide)
abbrev lh:Nat:=163
abbrev sS:Nat:=213
theorem en_213:aJ Tryz.prog 213:=⟨_,Tryz.func213,by decide,rfl⟩
abbrev ug:Nat:=189
abbrev pu:Nat:=190
theorem en_189:aJ Tryz.prog 189:=⟨_,Tryz.func189,by decide,rfl⟩
theorem en_190:aJ Tryz.prog 190:=⟨_,Tryz.func190,by decide,rfl⟩
abbrev eE:Nat:=164
abbrev bb:Nat:=158
def bY (r:Sl):Value:=(sv r)
abbrev rM:Nat:=192
abbrev kE:Nat:=3
abbrev uA:Nat:=191
theorem en_192:aJ Tryz.prog 192:=⟨_,Tryz.func192,by decide,rfl⟩
abbrev dw:Nat:=165
theorem inf_158:∃ i,Tryz.prog.info? 158 = some i∧i.size = 1:=bE (by kernel_rfl)
theorem en_165:aJ Tryz.prog 165:=⟨_,Tryz.func165,by decide,rfl⟩
theorem en_164:aJ Tryz.prog 164:=⟨_,Tryz.func164,by decide,rfl⟩
theorem en_163:aJ Tryz.prog 163:=⟨_,Tryz.func163,by decide,rfl⟩
abbrev pK:Nat:=110
theorem en_110:aJ Tryz.prog 110:=⟨_,Tryz.func110,by decide,rfl⟩
abbrev mK:Nat:=60
abbrev iH:Nat:=111
theorem en_111:aJ Tryz.prog 111:=⟨_,Tryz.func111,by decide,rfl⟩
abbrev iZ:Nat:=61
abbrev n_plain_fails:Nat:=113
theorem build_37_0_1_2 (y0:Int) (y1:Int) (y2:Int):∀ w,(Instr.build 37 #[(0,(.int .i64 y0)),(1,(.int .i64 y1)),(2,(.int .i64 y2))]).run Tryz.prog w = .ok (.agg (au.C (⟨y0,y1,y2,0⟩:au)).toArray) w:=fun _=>by kernel_rfl
abbrev jo:Nat:=134
abbrev jK:Nat:=193
theorem nF:Fld Tryz.prog 207 0 0:=bW (m:=1) Tryz.underlying207 rfl rfl (by kernel_rfl) (by decide)
theorem en_193:aJ Tryz.prog 193:=⟨_,Tryz.func193,by decide,rfl⟩
abbrev jk:Nat:=166
abbrev t_none:Nat:=0
abbrev sP:Nat:=167
theorem nG:Fld Tryz.prog 149 3 5:=bW (m:=1) Tryz.underlying149 rfl rfl (by kernel_rfl) (by decide)
theorem en_134:aJ Tryz.prog 134:=⟨_,Tryz.func134,by decide,rfl⟩
theorem en_167:aJ Tryz.prog 167:=⟨_,Tryz.func167,by decide,rfl⟩
theorem en_166:aJ Tryz.prog 166:=⟨_,Tryz.func166,by decide,rfl⟩
theorem sc_146:Sc Tryz.prog 146:=⟨⟨_,Tryz.underlying146,rfl⟩,bE (by kernel_rfl)⟩
abbrev la:Nat:=114
theorem sY:Fld Tryz.prog 37 0 0:=bW (m:=1) Tryz.underlying37 rfl rfl (by kernel_rfl) (by decide)
theorem build_37_0_1_2_3 (y0:Int) (y1:Int) (y2:Int) (y3:Int):∀ w,(Instr.build 37 #[(0,(.int .i64 y0)),(1,(.int .i64 y1)),(2,(.int .i64 y2)),(3,(.int .i64 y3))]).run Tryz.prog w = .ok (.agg (au.C (⟨y0,y1,y2,y3⟩:au)).toArray) w:=fun _=>by kernel_rfl
abbrev hO:Nat:=135
abbrev jl:Nat:=194
theorem en_194:aJ Tryz.prog 194:=⟨_,Tryz.func194,by decide,rfl⟩
abbrev lF:Nat:=168
def cK (r:Sl):Value:=(sv r)
abbrev kO:Nat:=202
def R_api_Cap (r:au):Value:=(.agg (au.C r).toArray)
theorem uH (y0:Int) (y1:Int):∀ w,(Instr.build 231 #[(0,(.int .i64 y0)),(1,(.int .i64 y1))]).run Tryz.prog w = .ok (.agg (aF.C (⟨y0,y1⟩:aF)).toArray) w:=fun _=>by kernel_rfl
theorem zero_231:∃ i,Tryz.prog.info? 231 = some i∧i.zero = some (.agg (aF.C (⟨0,0⟩:aF)).toArray):=kC (by kernel_rfl)
theorem ag_231:Ag Tryz.prog 231 2:=⟨⟨_,Tryz.underlying231,rfl⟩,bE (by kernel_rfl)⟩
abbrev gM:Nat:=197
theorem inf_231:∃ i,Tryz.prog.info? 231 = some i∧i.size = 2:=bE (by kernel_rfl)
abbrev jV:Nat:=179
abbrev lO:Nat:=195
theorem slc_197:Slc Tryz.prog 197 231 2:=⟨Tryz.underlying197,bE (by kernel_rfl)⟩
theorem fld_231_0:Fld Tryz.prog 231 0 0:=bW (m:=1) Tryz.underlying231 rfl rfl (by kernel_rfl) (by decide)
theorem fld_231_1:Fld Tryz.prog 231 1 1:=bW (m:=1) Tryz.underlying231 rfl rfl (by kernel_rfl) (by decide)
abbrev gz:Nat:=196
abbrev kK:Nat:=181
def aF.eqb (x y:aF):Bool:=((x.fEnv == y.fEnv) && ((x.fSlot == y.fSlot) && true))
theorem eqr_231 (n:Nat) (x y:aF):EqR Tryz.prog (n + 2) 231 (.agg (aF.C x).toArray) (.agg (aF.C y).toArray) (aF.eqb x y):=xa Tryz.underlying231 (by kernel_rfl) (lr (by decide) (gO aW rfl) (gO aW rfl) (ja (n:=n + 0) Tryz.underlying3) (lr (by decide) (gO aW rfl) (gO aW rfl) (ja (n:=n + 0) Tryz.underlying3) eqf_nil))
theorem eqg_231:Tryz.prog.eqGuardType Tryz.prog.depth 231 = false:=by kernel_rfl
theorem en_181:aJ Tryz.prog 181:=⟨_,Tryz.func181,by decide,rfl⟩
abbrev gA:Nat:=197
def dp (r:Sl × Int):Value:=.tuple #[(sv r.1),(.int .i64 r.2)]
theorem en_196:aJ Tryz.prog 196:=⟨_,Tryz.func196,by decide,rfl⟩
theorem en_179:aJ Tryz.prog 179:=⟨_,Tryz.func179,by decide,rfl⟩
abbrev rB:Nat:=231
theorem en_195:aJ Tryz.prog 195:=⟨_,Tryz.func195,by decide,rfl⟩
abbrev rC:Nat:=147
abbrev lP:Nat:=169
theorem en_169:aJ Tryz.prog 169:=⟨_,Tryz.func169,by decide,rfl⟩
theorem en_168:aJ Tryz.prog 168:=⟨_,Tryz.func168,by decide,rfl⟩
theorem en_135:aJ Tryz.prog 135:=⟨_,Tryz.func135,by decide,rfl⟩
abbrev ie:Nat:=115
def je (r:al × Int):Value:=.tuple #[(.agg (al.C r.1).toArray),(.int .i64 r.2)]
abbrev iE:Nat:=118
abbrev ll:Nat:=180
abbrev kL:Nat:=139
theorem en_139:aJ Tryz.prog 139:=⟨_,Tryz.func139,by decide,rfl⟩
abbrev mX:Nat:=170
abbrev tA:Nat:=122
abbrev lE:Nat:=171
abbrev mJ:Nat:=172
def eI (r:ab):Value:=(.agg (ab.C r).toArray)
theorem en_118:aJ Tryz.prog 118:=⟨_,Tryz.func118,by decide,rfl⟩
theorem en_172:aJ Tryz.prog 172:=⟨_,Tryz.func172,by decide,rfl⟩
theorem en_171:aJ Tryz.prog 171:=⟨_,Tryz.func171,by decide,rfl⟩
theorem en_170:aJ Tryz.prog 170:=⟨_,Tryz.func170,by decide,rfl⟩
abbrev kq:Nat:=116
theorem mN (y0:Int) (y1:Int) (y2:Int):∀ w,(Instr.build 121 #[(0,(.int .i64 y0)),(1,(.int .i64 y1)),(2,(.int .i64 y2))]).run Tryz.prog w = .ok (.agg (al.C (⟨y0,y1,y2⟩:al)).toArray) w:=fun _=>by kernel_rfl
abbrev mf:Nat:=117
abbrev ko:Nat:=173
theorem en_173:aJ Tryz.prog 173:=⟨_,Tryz.func173,by decide,rfl⟩
abbrev jL:Nat:=119
abbrev n_pred_Holds:Nat:=140
theorem qX:aJ Tryz.prog 113:=⟨_,Tryz.func113,by decide,rfl⟩
theorem en_140:aJ Tryz.prog 140:=⟨_,Tryz.func140,by decide,rfl⟩
abbrev kZ:Nat:=120
abbrev mc:Nat:=121
theorem en_116:aJ Tryz.prog 116:=⟨_,Tryz.func116,by decide,rfl⟩
theorem en_114:aJ Tryz.prog 114:=⟨_,Tryz.func114,by decide,rfl⟩
theorem en_115:aJ Tryz.prog 115:=⟨_,Tryz.func115,by decide,rfl⟩
theorem en_117:aJ Tryz.prog 117:=⟨_,Tryz.func117,by decide,rfl⟩
theorem en_119:aJ Tryz.prog 119:=⟨_,Tryz.func119,by decide,rfl⟩
theorem en_120:aJ Tryz.prog 120:=⟨_,Tryz.func120,by decide,rfl⟩
theorem en_121:aJ Tryz.prog 121:=⟨_,Tryz.func121,by decide,rfl⟩
abbrev dr:Nat:=62
theorem en_56:aJ Tryz.prog 56:=⟨_,Tryz.func56,by decide,rfl⟩
theorem en_55:aJ Tryz.prog 55:=⟨_,Tryz.func55,by decide,rfl⟩
theorem fld_89_4:Fld Tryz.prog 89 4 4:=bW (m:=1) Tryz.underlying89 rfl rfl (by kernel_rfl) (by decide)
theorem fld_98_4:Fld Tryz.prog 98 4 8:=bW (m:=1) Tryz.underlying98 rfl rfl (by kernel_rfl) (by decide)
theorem fld_89_3:Fld Tryz.prog 89 3 3:=bW (m:=1) Tryz.underlying89 rfl rfl (by kernel_rfl) (by decide)
theorem en_60:aJ Tryz.prog 60:=⟨_,Tryz.func60,by decide,rfl⟩
theorem sc_85:Sc Tryz.prog 85:=⟨⟨_,Tryz.underlying85,rfl⟩,bE (by kernel_rfl)⟩
theorem en_59:aJ Tryz.prog 59:=⟨_,Tryz.func59,by decide,rfl⟩
theorem sc_86:Sc Tryz.prog 86:=⟨⟨_,Tryz.underlying86,rfl⟩,bE (by kernel_rfl)⟩
theorem en_58:aJ Tryz.prog 58:=⟨_,Tryz.func58,by decide,rfl⟩
theorem inf_4:∃ i,Tryz.prog.info? 4 = some i∧i.size = 1:=bE (by kernel_rfl)
theorem en_62:aJ Tryz.prog 62:=⟨_,Tryz.func62,by decide,rfl⟩
theorem en_61:aJ Tryz.prog 61:=⟨_,Tryz.func61,by decide,rfl⟩
theorem en_57:aJ Tryz.prog 57:=⟨_,Tryz.func57,by decide,rfl⟩
abbrev lM:Nat:=23
abbrev kH:Nat:=122
theorem en_122:aJ Tryz.prog 122:=⟨_,Tryz.func122,by decide,rfl⟩
abbrev pN:Nat:=63
abbrev lI:Nat:=123
abbrev jN:Nat:=124
theorem en_124:aJ Tryz.prog 124:=⟨_,Tryz.func124,by decide,rfl⟩
theorem en_123:aJ Tryz.prog 123:=⟨_,Tryz.func123,by decide,rfl⟩
abbrev pM:Nat:=64
theorem en_23:aJ Tryz.prog 23:=⟨_,Tryz.func23,by decide,rfl⟩
theorem en_64:aJ Tryz.prog 64:=⟨_,Tryz.func64,by decide,rfl⟩
theorem en_63:aJ Tryz.prog 63:=⟨_,Tryz.func63,by decide,rfl⟩
abbrev fd:Nat:=24
theorem qD:Fld Tryz.prog 54 0 0:=bW (m:=1) Tryz.underlying54 rfl rfl (by kernel_rfl) (by decide)
theorem en_20:aJ Tryz.prog 20:=⟨_,Tryz.func20,by decide,rfl⟩
theorem en_24:aJ Tryz.prog 24:=⟨_,Tryz.func24,by decide,rfl⟩
theorem en_22:aJ Tryz.prog 22:=⟨_,Tryz.func22,by decide,rfl⟩
abbrev dH:Nat:=16
theorem oL:Fld Tryz.prog 27 0 0:=bW (m:=1) Tryz.underlying27 rfl rfl (by kernel_rfl) (by decide)
theorem oK:Fld Tryz.prog 54 1 1:=bW (m:=1) Tryz.underlying54 rfl rfl (by kernel_rfl) (by decide)
theorem sX:Fld Tryz.prog 54 3 7:=bW (m:=1) Tryz.underlying54 rfl rfl (by kernel_rfl) (by decide)
abbrev n_hist_one:Nat:=69
abbrev jg:Nat:=50
def R_map_int_bool (r:(Option Nat)):Value:=(.map r)
abbrev gL:Nat:=113
def R_map_int_int (r:(Option Nat)):Value:=(.map r)
theorem tv:∃ i,Tryz.prog.info? 54 = some i∧i.zero = some (.agg (ar.C (⟨0,0,(⟨0,0,0,0,0⟩:ah),0,0,0,(⟨0,0⟩:ab),(⟨0,0,0,0⟩:ak)⟩:ar)).toArray):=kC (by kernel_rfl)
theorem ul:Ag Tryz.prog 54 16:=⟨⟨_,Tryz.underlying54,rfl⟩,bE (by kernel_rfl)⟩
theorem pw:Ag Tryz.prog 27 3:=⟨⟨_,Tryz.underlying27,rfl⟩,bE (by kernel_rfl)⟩
theorem en_69:aJ Tryz.prog 69:=⟨_,Tryz.func69,by decide,rfl⟩
theorem inf_54:∃ i,Tryz.prog.info? 54 = some i∧i.size = 16:=bE (by kernel_rfl)
abbrev wI:Nat:=33
abbrev qb:Nat:=67
abbrev mM:Nat:=86
abbrev bT:Nat:=184
abbrev jU:Nat:=185
theorem en_185:aJ Tryz.prog 185:=⟨_,Tryz.func185,by decide,rfl⟩
theorem en_184:aJ Tryz.prog 184:=⟨_,Tryz.func184,by decide,rfl⟩
abbrev kY:Nat:=143
theorem en_143:aJ Tryz.prog 143:=⟨_,Tryz.func143,by decide,rfl⟩
abbrev fA:Nat:=87
abbrev n_cmp_isNaN_int:Nat:=144
theorem en_144:aJ Tryz.prog 144:=⟨_,Tryz.func144,by decide,rfl⟩
abbrev uh:Nat:=89
theorem en_89:aJ Tryz.prog 89:=⟨_,Tryz.func89,by decide,rfl⟩
abbrev qT:Nat:=88
theorem en_87:aJ Tryz.prog 87:=⟨_,Tryz.func87,by decide,rfl⟩
theorem en_67:aJ Tryz.prog 67:=⟨_,Tryz.func67,by decide,rfl⟩
abbrev oC:Nat:=43
def tn (r:Ptr):Value:=(pv r)
theorem build_209  : ∀ w,(Instr.build 209 #[]).run Tryz.prog w = .ok (.agg (sk.C (⟨(⟨none,0,0,none⟩:Sl)⟩:sk)).toArray) w:=fun _=>by kernel_rfl
abbrev pF:Nat:=155
def R_SSuint64 (r:Sl):Value:=(sv r)
theorem inf_155:∃ i,Tryz.prog.info? 155 = some i∧i.size = 1:=bE (by kernel_rfl)
abbrev ly:Nat:=209
abbrev vj:Nat:=93
def rX (r:Ptr):Value:=(pv r)
theorem build_207_0 (y0:Sl):∀ w,(Instr.build 207 #[(0,(sv y0))]).run Tryz.prog w = .ok (.agg (nI.C (⟨y0⟩:nI)).toArray) w:=fun _=>by kernel_rfl
abbrev qj:Nat:=207
abbrev wG:Nat:=94
def rZ (r:Ptr):Value:=(pv r)
abbrev t_S_8_api_Cap:Nat:=203
def R_S_8_api_Cap (r:Sl):Value:=(sv r)
theorem build_205_0 (y0:Sl):∀ w,(Instr.build 205 #[(0,(sv y0))]).run Tryz.prog w = .ok (.agg (nL.C (⟨y0⟩:nL)).toArray) w:=fun _=>by kernel_rfl
abbrev nj:Nat:=205
abbrev wJ:Nat:=95
def dF (r:Ptr):Value:=(pv r)
theorem vp:Fld Tryz.prog 27 2 2:=bW (m:=1) Tryz.underlying27 rfl rfl (by kernel_rfl) (by decide)
theorem build_149_0_1_3_4 (y0:aA) (y1:Ptr) (y3:Ptr) (y4:Ptr):∀ w,(Instr.build 149 #[(0,(.agg (aA.C y0).toArray)),(1,(pv y1)),(3,(pv y3)),(4,(pv y4))]).run Tryz.prog w = .ok (.agg (gc.C (⟨y0,y1,(⟨none,0,0,none⟩:Sl),y3,y4⟩:gc)).toArray) w:=fun _=>by kernel_rfl
abbrev eG:Nat:=145
def mO (r:Sl):Value:=(sv r)
theorem inf_145:∃ i,Tryz.prog.info? 145 = some i∧i.size = 1:=bE (by kernel_rfl)
abbrev cn:Nat:=149
theorem en_95:aJ Tryz.prog 95:=⟨_,Tryz.func95,by decide,rfl⟩
theorem en_94:aJ Tryz.prog 94:=⟨_,Tryz.func94,by decide,rfl⟩
theorem en_93:aJ Tryz.prog 93:=⟨_,Tryz.func93,by decide,rfl⟩
abbrev nv:Nat:=48
theorem mB:Fld Tryz.prog 54 2 2:=bW (m:=5) Tryz.underlying54 rfl rfl (by kernel_rfl) (by decide)
abbrev n_judge_user:Nat:=131
abbrev gt:Nat:=216
theorem en_216:aJ Tryz.prog 216:=⟨_,Tryz.func216,by decide,rfl⟩
abbrev qR:Nat:=199
abbrev me:Nat:=200
theorem en_199:aJ Tryz.prog 199:=⟨_,Tryz.func199,by decide,rfl⟩
theorem en_200:aJ Tryz.prog 200:=⟨_,Tryz.func200,by decide,rfl⟩
theorem en_48:aJ Tryz.prog 48:=⟨_,Tryz.func48,by decide,rfl⟩
abbrev gy:Nat:=175
abbrev sR:Nat:=215
abbrev n_hist_Over:Nat:=198
def pW (r:Sl):Value:=(sv r)
theorem vr:Fld Tryz.prog 192 2 4:=bW (m:=1) Tryz.underlying192 rfl rfl (by kernel_rfl) (by decide)
abbrev pE:Nat:=234
theorem fld_192_0:Fld Tryz.prog 192 0 0:=bW (m:=1) Tryz.underlying192 rfl rfl (by kernel_rfl) (by decide)
theorem en_175:aJ Tryz.prog 175:=⟨_,Tryz.func175,by decide,rfl⟩
theorem en_198:aJ Tryz.prog 198:=⟨_,Tryz.func198,by decide,rfl⟩
abbrev li:Nat:=174
theorem fld_192_1:Fld Tryz.prog 192 1 1:=bW (m:=3) Tryz.underlying192 rfl rfl (by kernel_rfl) (by decide)
def ab.eqb (x y:ab):Bool:=((x.fErr == y.fErr) && ((x.fVal == y.fVal) && true))
theorem nu:Sc Tryz.prog 28:=⟨⟨_,Tryz.underlying28,rfl⟩,bE (by kernel_rfl)⟩
theorem eqr_30 (n:Nat) (x y:ab):EqR Tryz.prog (n + 2) 30 (.agg (ab.C x).toArray) (.agg (ab.C y).toArray) (ab.eqb x y):=xa Tryz.underlying30 (by kernel_rfl) (lr (by decide) (gO nu rfl) (gO nu rfl) (ja (n:=n + 0) Tryz.underlying28) (lr (by decide) (gO ck rfl) (gO ck rfl) (ja (n:=n + 0) Tryz.underlying22) eqf_nil))
theorem eqg_30:Tryz.prog.eqGuardType Tryz.prog.depth 30 = false:=by kernel_rfl
def ak.eqb (x y:ak):Bool:=((x.fEnv == y.fEnv) && ((x.fPage == y.fPage) && ((x.fFrame == y.fFrame) && ((x.fRights == y.fRights) && true))))
theorem eqr_52 (n:Nat) (x y:ak):EqR Tryz.prog (n + 2) 52 (.agg (ak.C x).toArray) (.agg (ak.C y).toArray) (ak.eqb x y):=xa Tryz.underlying52 (by kernel_rfl) (lr (by decide) (gO aW rfl) (gO aW rfl) (ja (n:=n + 0) Tryz.underlying3) (lr (by decide) (gO aW rfl) (gO aW rfl) (ja (n:=n + 0) Tryz.underlying3) (lr (by decide) (gO aW rfl) (gO aW rfl) (ja (n:=n + 0) Tryz.underlying3) (lr (by decide) (gO aW rfl) (gO aW rfl) (ja (n:=n + 0) Tryz.underlying3) eqf_nil))))
theorem eqg_52:Tryz.prog.eqGuardType Tryz.prog.depth 52 = false:=by kernel_rfl
theorem slc_234:Slc Tryz.prog 234 121 3:=⟨Tryz.underlying234,bE (by kernel_rfl)⟩
theorem jr:Fld Tryz.prog 30 0 0:=bW (m:=1) Tryz.underlying30 rfl rfl (by kernel_rfl) (by decide)
theorem fld_30_1:Fld Tryz.prog 30 1 1:=bW (m:=1) Tryz.underlying30 rfl rfl (by kernel_rfl) (by decide)
theorem en_174:aJ Tryz.prog 174:=⟨_,Tryz.func174,by decide,rfl⟩
abbrev lj:Nat:=132
abbrev mW:Nat:=133
theorem build_192_0_1_2 (y0:Sl) (y1:aA) (y2:Ptr):∀ w,(Instr.build 192 #[(0,(sv y0)),(1,(.agg (aA.C y1).toArray)),(2,(pv y2))]).run Tryz.prog w = .ok (.agg (km.C (⟨y0,y1,y2⟩:km)).toArray) w:=fun _=>by kernel_rfl
theorem en_133:aJ Tryz.prog 133:=⟨_,Tryz.func133,by decide,rfl⟩
theorem en_132:aJ Tryz.prog 132:=⟨_,Tryz.func132,by decide,rfl⟩
theorem en_131:aJ Tryz.prog 131:=⟨_,Tryz.func131,by decide,rfl⟩
theorem en_43:aJ Tryz.prog 43:=⟨_,Tryz.func43,by decide,rfl⟩
abbrev da:Nat:=192
theorem en_33:aJ Tryz.prog 33:=⟨_,Tryz.func33,by decide,rfl⟩
abbrev ud:Nat:=84
theorem en_84:aJ Tryz.prog 84:=⟨_,Tryz.func84,by decide,rfl⟩
abbrev oA:Nat:=39
abbrev oB:Nat:=40
theorem en_40:aJ Tryz.prog 40:=⟨_,Tryz.func40,by decide,rfl⟩
theorem en_39:aJ Tryz.prog 39:=⟨_,Tryz.func39,by decide,rfl⟩
abbrev qa:Nat:=19
def oN (r:Ptr):Value:=(pv r)
theorem build_157_0 (y0:Sl):∀ w,(Instr.build 157 #[(0,(sv y0))]).run Tryz.prog w = .ok (.agg (nJ.C (⟨y0⟩:nJ)).toArray) w:=fun _=>by kernel_rfl
abbrev kN:Nat:=157
abbrev sQ:Nat:=49
def ir (r:Ptr):Value:=(pv r)
theorem build_160_1 (y1:Sl):∀ w,(Instr.build 160 #[(1,(sv y1))]).run Tryz.prog w = .ok (.agg (jv.C (⟨(⟨none,0,0,none⟩:Sl),y1⟩:jv)).toArray) w:=fun _=>by kernel_rfl
abbrev gU:Nat:=160
abbrev nA:Nat:=50
abbrev qQ:Nat:=97
def gw (r:Ptr):Value:=(pv r)
abbrev pD:Nat:=166
theorem en_97:aJ Tryz.prog 97:=⟨_,Tryz.func97,by decide,rfl⟩
abbrev io:Nat:=51
def rY (r:Ptr):Value:=(pv r)
abbrev mw:Nat:=87
def qf (r:Sl):Value:=(sv r)
theorem ne (y0:Ptr) (y1:Int) (y3:Ptr) (y4:Ptr) (y5:Sl):∀ w,(Instr.build 89 #[(0,(pv y0)),(1,(.int .i64 y1)),(3,(pv y3)),(4,(pv y4)),(5,(sv y5))]).run Tryz.prog w = .ok (.agg (fy.C (⟨y0,y1,(⟨none,0,0,none⟩:Sl),y3,y4,y5,(⟨none,0,0,none⟩:Sl),0⟩:fy)).toArray) w:=fun _=>by kernel_rfl
abbrev bN:Nat:=84
def dI (r:Sl):Value:=(sv r)
theorem inf_84:∃ i,Tryz.prog.info? 84 = some i∧i.size = 1:=bE (by kernel_rfl)
theorem en_51:aJ Tryz.prog 51:=⟨_,Tryz.func51,by decide,rfl⟩
abbrev cc:Nat:=89
theorem en_50:aJ Tryz.prog 50:=⟨_,Tryz.func50,by decide,rfl⟩
theorem en_49:aJ Tryz.prog 49:=⟨_,Tryz.func49,by decide,rfl⟩
abbrev wH:Nat:=21
def mF (r:Sl):Value:=(sv r)
abbrev mv:Nat:=68
abbrev n_twin_View:Nat:=30
def nM (r:Sl):Value:=(sv r)
abbrev nl:Nat:=59
theorem build_63_0_1 (y0:Int) (y1:Int):∀ w,(Instr.build 63 #[(0,(.int .i64 y0)),(1,(.int .i64 y1))]).run Tryz.prog w = .ok (.agg (dL.C (⟨y0,y1,0,(⟨0,0,0,0,0⟩:ah),0,0⟩:dL)).toArray) w:=fun _=>by kernel_rfl
abbrev uB:Nat:=41
abbrev lG:Nat:=92
theorem en_92:aJ Tryz.prog 92:=⟨_,Tryz.func92,by decide,rfl⟩
abbrev mg:Nat:=46
abbrev wD:Nat:=176
theorem en_176:aJ Tryz.prog 176:=⟨_,Tryz.func176,by decide,rfl⟩
abbrev n_user_Do:Nat:=136
def ii (r:Value):Value:=(r)
theorem build_248_0_1 (y0:Int) (y1:Int):∀ w,(Instr.build 248 #[(0,(.int .i64 y0)),(1,(.int .i64 y1))]).run Tryz.prog w = .ok (.agg (bU.C (⟨y0,y1,(⟨0,0,0,0,0⟩:ah),Value.nilIface⟩:bU)).toArray) w:=fun _=>by kernel_rfl
abbrev bc:Nat:=246
abbrev ni:Nat:=248
abbrev kg:Nat:=142
abbrev fU:Nat:=182
theorem ag_295:Ag Tryz.prog 295 3:=⟨⟨_,Tryz.underlying295,rfl⟩,bE (by kernel_rfl)⟩
abbrev eV:Nat:=229
def ft (r:aG):Value:=(.agg (aG.C r).toArray)
abbrev cL:Nat:=225
abbrev fe:Nat:=230
abbrev gg:Nat:=195
abbrev iR:Nat:=275
def ge (r:Value × Bool):Value:=.tuple #[(r.1),(.bool r.2)]
abbrev ik:Nat:=277
def fN (r:Value × Bool):Value:=.tuple #[(r.1),(.bool r.2)]
def R_Serror (r:Sl):Value:=(sv r)
theorem slc_278:Slc Tryz.prog 278 195 1:=⟨Tryz.underlying278,bE (by kernel_rfl)⟩
abbrev ue:Nat:=228
theorem en_228:aJ Tryz.prog 228:=⟨_,Tryz.func228,by decide,rfl⟩
theorem sc_195:Sc Tryz.prog 195:=⟨⟨_,Tryz.underlying195,rfl⟩,bE (by kernel_rfl)⟩
abbrev qk:Nat:=304
def ng (r:Value × Bool):Value:=.tuple #[(r.1),(.bool r.2)]
theorem zero_295:∃ i,Tryz.prog.info? 295 = some i∧i.zero = some (.agg (aG.C (⟨none,none,0⟩:aG)).toArray):=kC (by kernel_rfl)
abbrev ij:Nat:=226
def R_abi_Kind (r:Int):Value:=(.int .u8 r)
def str_6ae768b9:ByteArray:=⟨#[101,114,114,111,114,115,58,32,42,116,97,114,103,101,116,32,109,117,115,116,32,98,101,32,105,110,116,101,114,102,97,99,101,32,111,114,32,105,109,112,108,101,109,101,110,116,32,101,114,114,111,114]⟩
abbrev uI:Nat:=9
theorem sc_243:Sc Tryz.prog 243:=⟨⟨_,Tryz.underlying243,rfl⟩,bE (by kernel_rfl)⟩
abbrev eM:Nat:=227
def str_ae9b7a08:ByteArray:=⟨#[101,114,114,111,114,115,58,32,116,97,114,103,101,116,32,109,117,115,116,32,98,101,32,97,32,110,111,110,45,110,105,108,32,112,111,105,110,116,101,114]⟩
theorem inf_295:∃ i,Tryz.prog.info? 295 = some i∧i.size = 3:=bE (by kernel_rfl)
def str_53947bae:ByteArray:=⟨#[101,114,114,111,114,115,58,32,116,97,114,103,101,116,32,99,97,110,110,111,116,32,98,101,32,110,105,108]⟩
abbrev uf:Nat:=223
def eA (r:Ptr × Bool):Value:=.tuple #[(pv r.1),(.bool r.2)]
theorem zero_246:∃ i,Tryz.prog.info? 246 = some i∧i.zero = some (pv none):=kC (by kernel_rfl)
theorem sc_246:Sc Tryz.prog 246:=⟨⟨_,Tryz.underlying246,rfl⟩,bE (by kernel_rfl)⟩
abbrev bw:Nat:=289
theorem en_223:aJ Tryz.prog 223:=⟨_,Tryz.func223,by decide,rfl⟩
abbrev jI:Nat:=217
theorem vq:Fld Tryz.prog 248 0 0:=bW (m:=1) Tryz.underlying248 rfl rfl (by kernel_rfl) (by decide)
theorem en_217:aJ Tryz.prog 217:=⟨_,Tryz.func217,by decide,rfl⟩
abbrev uc:Nat:=201
def R_trap_Trap (r:bU):Value:=(.agg (bU.C r).toArray)
theorem en_201:aJ Tryz.prog 201:=⟨_,Tryz.func201,by decide,rfl⟩
abbrev n_trap_In:Nat:=177
theorem xc:aJ Tryz.prog 142:=⟨_,Tryz.func142,by decide,rfl⟩
theorem en_177:aJ Tryz.prog 177:=⟨_,Tryz.func177,by decide,rfl⟩
abbrev mU:Nat:=137
def oO (r:Ptr):Value:=(pv r)
theorem build_284_0 (y0:Int):∀ w,(Instr.build 284 #[(0,(.int .u64 y0))]).run Tryz.prog w = .ok (.agg (nK.C (⟨y0,0⟩:nK)).toArray) w:=fun _=>by kernel_rfl
abbrev ql:Nat:=284
abbrev sT:Nat:=202
def tm (r:Ptr):Value:=(pv r)
theorem build_286_0_1 (y0:Ptr) (y1:Ptr):∀ w,(Instr.build 286 #[(0,(pv y0)),(1,(pv y1))]).run Tryz.prog w = .ok (.agg (kl.C (⟨y0,y1⟩:kl)).toArray) w:=fun _=>by kernel_rfl
abbrev mu:Nat:=286
theorem en_202:aJ Tryz.prog 202:=⟨_,Tryz.func202,by decide,rfl⟩
abbrev wF:Nat:=203
theorem si:Fld Tryz.prog 284 1 1:=bW (m:=1) Tryz.underlying284 rfl rfl (by kernel_rfl) (by decide)
theorem nE:Fld Tryz.prog 284 0 0:=bW (m:=1) Tryz.underlying284 rfl rfl (by kernel_rfl) (by decide)
abbrev oE:Nat:=204
theorem fld_286_0:Fld Tryz.prog 286 0 0:=bW (m:=1) Tryz.underlying286 rfl rfl (by kernel_rfl) (by decide)
theorem en_204:aJ Tryz.prog 204:=⟨_,Tryz.func204,by decide,rfl⟩
theorem sc_264:Sc Tryz.prog 264:=⟨⟨_,Tryz.underlying264,rfl⟩,bE (by kernel_rfl)⟩
abbrev mT:Nat:=205
abbrev ny:Nat:=183
theorem en_183:aJ Tryz.prog 183:=⟨_,Tryz.func183,by decide,rfl⟩
abbrev lU:Nat:=272
def jw (r:Value × Bool):Value:=.tuple #[(r.1),(.bool r.2)]
abbrev nz:Nat:=141
theorem fld_248_3:Fld Tryz.prog 248 3 7:=bW (m:=1) Tryz.underlying248 rfl rfl (by kernel_rfl) (by decide)
abbrev wE:Nat:=224
theorem jP (y0:Int) (y1:Int):∀ w,(Instr.build 34 #[(0,(.int .u64 y0)),(1,(.int .u64 y1))]).run Tryz.prog w = .ok (.agg (ah.C (⟨y0,y1,0,0,0⟩:ah)).toArray) w:=fun _=>by kernel_rfl
theorem fld_248_1:Fld Tryz.prog 248 1 1:=bW (m:=1) Tryz.underlying248 rfl rfl (by kernel_rfl) (by decide)
theorem fld_248_2:Fld Tryz.prog 248 2 2:=bW (m:=5) Tryz.underlying248 rfl rfl (by kernel_rfl) (by decide)
def ah.eqb (x y:ah):Bool:=((x.e0 == y.e0) && ((x.e1 == y.e1) && ((x.e2 == y.e2) && ((x.e3 == y.e3) && ((x.e4 == y.e4) && true)))))
theorem eqr_34 (n:Nat) (x y:ah):EqR Tryz.prog (n + 2) 34 (.agg (ah.C x).toArray) (.agg (ah.C y).toArray) (ah.eqb x y):=eqr_arr Tryz.underlying34 inf_22 ⟨_,_,_,_,(gO ck rfl),(gO ck rfl),(ja (n:=n + 0) Tryz.underlying22),⟨_,_,_,_,(gO ck rfl),(gO ck rfl),(ja (n:=n + 0) Tryz.underlying22),⟨_,_,_,_,(gO ck rfl),(gO ck rfl),(ja (n:=n + 0) Tryz.underlying22),⟨_,_,_,_,(gO ck rfl),(gO ck rfl),(ja (n:=n + 0) Tryz.underlying22),⟨_,_,_,_,(gO ck rfl),(gO ck rfl),(ja (n:=n + 0) Tryz.underlying22),rfl,rfl⟩,rfl⟩,rfl⟩,rfl⟩,rfl⟩
theorem eqg_34:Tryz.prog.eqGuardType Tryz.prog.depth 34 = false:=by kernel_rfl
def dM (r:ByteArray):Value:=(.string r)
def nS:ByteArray:=⟨#[116,114,97,112,32,51,58,32,116,114,97,112,32,51]⟩
theorem en_141:aJ Tryz.prog 141:=⟨_,Tryz.func141,by decide,rfl⟩
theorem en_224:aJ Tryz.prog 224:=⟨_,Tryz.func224,by decide,rfl⟩
abbrev lf:Nat:=218
theorem en_218:aJ Tryz.prog 218:=⟨_,Tryz.func218,by decide,rfl⟩
abbrev lg:Nat:=206
abbrev lN:Nat:=219
theorem fld_286_1:Fld Tryz.prog 286 1 1:=bW (m:=1) Tryz.underlying286 rfl rfl (by kernel_rfl) (by decide)
theorem en_219:aJ Tryz.prog 219:=⟨_,Tryz.func219,by decide,rfl⟩
abbrev jJ:Nat:=207
abbrev qU:Nat:=220
theorem en_220:aJ Tryz.prog 220:=⟨_,Tryz.func220,by decide,rfl⟩
theorem en_207:aJ Tryz.prog 207:=⟨_,Tryz.func207,by decide,rfl⟩
abbrev mS:Nat:=208
abbrev n_word_Args:Nat:=209
abbrev pJ:Nat:=210
theorem build_34_0 (y0:Int):∀ w,(Instr.build 34 #[(0,(.int .u64 y0))]).run Tryz.prog w = .ok (.agg (ah.C (⟨y0,0,0,0,0⟩:ah)).toArray) w:=fun _=>by kernel_rfl
theorem ju (y0:Int) (y1:Int) (y2:Int) (y3:Int):∀ w,(Instr.build 34 #[(0,(.int .u64 y0)),(1,(.int .u64 y1)),(2,(.int .u64 y2)),(3,(.int .u64 y3))]).run Tryz.prog w = .ok (.agg (ah.C (⟨y0,y1,y2,y3,0⟩:ah)).toArray) w:=fun _=>by kernel_rfl
theorem en_210:aJ Tryz.prog 210:=⟨_,Tryz.func210,by decide,rfl⟩
theorem en_209:aJ Tryz.prog 209:=⟨_,Tryz.func209,by decide,rfl⟩
theorem en_208:aJ Tryz.prog 208:=⟨_,Tryz.func208,by decide,rfl⟩
theorem en_206:aJ Tryz.prog 206:=⟨_,Tryz.func206,by decide,rfl⟩
theorem en_205:aJ Tryz.prog 205:=⟨_,Tryz.func205,by decide,rfl⟩
theorem en_203:aJ Tryz.prog 203:=⟨_,Tryz.func203,by decide,rfl⟩
abbrev lb:Nat:=178
theorem en_178:aJ Tryz.prog 178:=⟨_,Tryz.func178,by decide,rfl⟩
abbrev lc:Nat:=138
theorem ti (y0:Int) (y1:Int) (y2:Int):∀ w,(Instr.build 27 #[(0,(.int .i64 y0)),(1,(.int .i64 y1)),(2,(.int .i64 y2))]).run Tryz.prog w = .ok (.agg (aA.C (⟨y0,y1,y2⟩:aA)).toArray) w:=fun _=>by kernel_rfl
theorem tg (y0:Int) (y1:Int) (y2:Int):∀ w,(Instr.build 34 #[(0,(.int .u64 y0)),(1,(.int .u64 y1)),(2,(.int .u64 y2))]).run Tryz.prog w = .ok (.agg (ah.C (⟨y0,y1,y2,0,0⟩:ah)).toArray) w:=fun _=>by kernel_rfl
theorem en_46:aJ Tryz.prog 46:=⟨_,Tryz.func46,by decide,rfl⟩
theorem en_138:aJ Tryz.prog 138:=⟨_,Tryz.func138,by decide,rfl⟩
theorem en_137:aJ Tryz.prog 137:=⟨_,Tryz.func137,by decide,rfl⟩
theorem en_136:aJ Tryz.prog 136:=⟨_,Tryz.func136,by decide,rfl⟩
abbrev ku:Nat:=85
theorem en_85:aJ Tryz.prog 85:=⟨_,Tryz.func85,by decide,rfl⟩
abbrev kv:Nat:=42
theorem slc_59:Slc Tryz.prog 59 63 10:=⟨Tryz.underlying59,bE (by kernel_rfl)⟩
theorem zero_63:∃ i,Tryz.prog.info? 63 = some i∧i.zero = some (.agg (dL.C (⟨0,0,0,(⟨0,0,0,0,0⟩:ah),0,0⟩:dL)).toArray):=kC (by kernel_rfl)
theorem fld_63_0:Fld Tryz.prog 63 0 0:=bW (m:=1) Tryz.underlying63 rfl rfl (by kernel_rfl) (by decide)
theorem fld_63_1:Fld Tryz.prog 63 1 1:=bW (m:=1) Tryz.underlying63 rfl rfl (by kernel_rfl) (by decide)
theorem inf_63:∃ i,Tryz.prog.info? 63 = some i∧i.size = 10:=bE (by kernel_rfl)
theorem ag_63:Ag Tryz.prog 63 10:=⟨⟨_,Tryz.underlying63,rfl⟩,bE (by kernel_rfl)⟩
abbrev oD:Nat:=90
theorem en_90:aJ Tryz.prog 90:=⟨_,Tryz.func90,by decide,rfl⟩
abbrev n_fair_Fair:Nat:=44
theorem zero_27:∃ i,Tryz.prog.info? 27 = some i∧i.zero = some (.agg (aA.C (⟨0,0,0⟩:aA)).toArray):=kC (by kernel_rfl)
theorem en_19:aJ Tryz.prog 19:=⟨_,Tryz.func19,by decide,rfl⟩
theorem en_30:aJ Tryz.prog 30:=⟨_,Tryz.func30,by decide,rfl⟩
theorem en_44:aJ Tryz.prog 44:=⟨_,Tryz.func44,by decide,rfl⟩
theorem en_42:aJ Tryz.prog 42:=⟨_,Tryz.func42,by decide,rfl⟩
theorem en_41:aJ Tryz.prog 41:=⟨_,Tryz.func41,by decide,rfl⟩
theorem en_16:aJ Tryz.prog 16:=⟨_,Tryz.func16,by decide,rfl⟩
theorem en_21:aJ Tryz.prog 21:=⟨_,Tryz.func21,by decide,rfl⟩
theorem inf_27:∃ i,Tryz.prog.info? 27 = some i∧i.size = 3:=bE (by kernel_rfl)
abbrev kr:Nat:=14
theorem en_14:aJ Tryz.prog 14:=⟨_,Tryz.func14,by decide,rfl⟩
abbrev mL:Nat:=17
theorem tf (y0:Int) (y1:Int) (y2:Int) (y3:Int) (y4:Int):∀ w,(Instr.build 34 #[(0,(.int .u64 y0)),(1,(.int .u64 y1)),(2,(.int .u64 y2)),(3,(.int .u64 y3)),(4,(.int .u64 y4))]).run Tryz.prog w = .ok (.agg (ah.C (⟨y0,y1,y2,y3,y4⟩:ah)).toArray) w:=fun _=>by kernel_rfl
theorem en_17:aJ Tryz.prog 17:=⟨_,Tryz.func17,by decide,rfl⟩
def um (r:ar):Value:=(.agg (ar.C r).toArray)
abbrev iF:Nat:=25
abbrev nk:Nat:=54
abbrev nR:Nat:=30
theorem en_25:aJ Tryz.prog 25:=⟨_,Tryz.func25,by decide,rfl⟩
abbrev lX:Nat:=6
def ig.eqb (x y:ig):Bool:=((x.fEnv == y.fEnv) && ((x.fSlot == y.fSlot) && true))
def str_73df774b:ByteArray:=⟨#[48,49,50,51,52,53,54,55,56,57,97,98,99,100,101,102,103,104,105,106,107,108,109,110,111,112,113,114,115,116,117,118,119,120,121,122]⟩
def str_e9752c08:ByteArray:=⟨#[48,48,48,49,48,50,48,51,48,52,48,53,48,54,48,55,48,56,48,57,49,48,49,49,49,50,49,51,49,52,49,53,49,54,49,55,49,56,49,57,50,48,50,49,50,50,50,51,50,52,50,53,50,54,50,55,50,56,50,57,51,48,51,49,51,50,51,51,51,52,51,53,51,54,51,55,51,56,51,57,52,48,52,49,52,50,52,51,52,52,52,53,52,54,52,55,52,56,52,57,53,48,53,49,53,50,53,51,53,52,53,53,53,54,53,55,53,56,53,57,54,48,54,49,54,50,54,51,54,52,54,53,54,54,54,55,54,56,54,57,55,48,55,49,55,50,55,51,55,52,55,53,55,54,55,55,55,56,55,57,56,48,56,49,56,50,56,51,56,52,56,53,56,54,56,55,56,56,56,57,57,48,57,49,57,50,57,51,57,52,57,53,57,54,57,55,57,56,57,57]⟩
abbrev iT:Nat:=255
abbrev qS:Nat:=256
theorem inf_5:∃ i,Tryz.prog.info? 5 = some i∧i.size = 1:=bE (by kernel_rfl)
abbrev oS:Nat:=257
def R_Suint8_string (r:Sl × ByteArray):Value:=.tuple #[(sv r.1),(.string r.2)]
def R_Suint8 (r:Sl):Value:=(sv r)
abbrev qz:Nat:=258
theorem en_255:aJ Tryz.prog 255:=⟨_,Tryz.func255,by decide,rfl⟩
theorem zero_325:∃ i,Tryz.prog.info? 325 = some i∧i.zero = some (.agg [.int .u8 0,.int .u8 0,.int .u8 0,.int .u8 0,.int .u8 0,.int .u8 0,.int .u8 0,.int .u8 0,.int .u8 0,.int .u8 0,.int .u8 0,.int .u8 0,.int .u8 0,.int .u8 0,.int .u8 0,.int .u8 0,.int .u8 0,.int .u8 0,.int .u8 0,.int .u8 0,.int .u8 0,.int .u8 0,.int .u8 0,.int .u8 0].toArray):=kC (by kernel_rfl)
abbrev vS:Nat:=325
theorem arr_325:Arr Tryz.prog 325 24 5 1:=⟨Tryz.underlying325,bE (by kernel_rfl)⟩
theorem en_257:aJ Tryz.prog 257:=⟨_,Tryz.func257,by decide,rfl⟩
theorem en_256:aJ Tryz.prog 256:=⟨_,Tryz.func256,by decide,rfl⟩
theorem en_258:aJ Tryz.prog 258:=⟨_,Tryz.func258,by decide,rfl⟩
abbrev gu:Nat:=254
theorem en_254:aJ Tryz.prog 254:=⟨_,Tryz.func254,by decide,rfl⟩
abbrev jn:Nat:=253
theorem en_253:aJ Tryz.prog 253:=⟨_,Tryz.func253,by decide,rfl⟩
abbrev sO:Nat:=252
theorem en_252:aJ Tryz.prog 252:=⟨_,Tryz.func252,by decide,rfl⟩
abbrev iD:Nat:=249
abbrev sM:Nat:=250
abbrev mR:Nat:=251
abbrev t_api_Pick:Nat:=63
abbrev so:Nat:=94
abbrev eZ:Nat:=96
abbrev dQ:Nat:=153
abbrev t_uint64:Nat:=22
abbrev t_api_Line:Nat:=52
abbrev t_api_Pte:Nat:=121
abbrev t_bool:Nat:=4
abbrev rd:Nat:=270
abbrev t_tlb_line:Nat:=162
end Go.Proofs.YtmggcfijlpldpaaGreatDoor
namespace Go.Proofs.YtmggcfijlpldpaaGreatDoor
open Go Mb
set_option linter.unusedVariables false
theorem el_Sint:El Tryz.prog dB kE 1 8 [.int .i64 0]:=vw Tryz.underlying40 (by kernel_rfl) rfl
theorem qc:El Tryz.prog eF nk 16 128 [.int .i64 0,.int .i64 0,.int .u64 0,.int .u64 0,.int .u64 0,.int .u64 0,.int .u64 0,.int .i64 0,.int .i64 0,.int .i64 0,.int .i64 0,.int .u64 0,.int .i64 0,.int .i64 0,.int .i64 0,.int .i64 0]:=vw Tryz.underlying43 (by kernel_rfl) rfl
theorem el_Sapi_Pick:El Tryz.prog nl t_api_Pick 10 80 [.int .i64 0,.int .i64 0,.int .i64 0,.int .u64 0,.int .u64 0,.int .u64 0,.int .u64 0,.int .u64 0,.int .i64 0,.int .i64 0]:=vw Tryz.underlying59 (by kernel_rfl) rfl
theorem el_Sapi_Answer:El Tryz.prog mv nR 2 16 [.int .i64 0,.int .u64 0]:=vw Tryz.underlying68 (by kernel_rfl) rfl
theorem el_SPtlb_Tlb:El Tryz.prog bN so 1 8 [pv none]:=vw Tryz.underlying84 (by kernel_rfl) rfl
theorem el_SPkern_call:El Tryz.prog mw eZ 1 8 [pv none]:=vw Tryz.underlying87 (by kernel_rfl) rfl
theorem vx:El Tryz.prog eG dQ 1 8 [pv none]:=vw Tryz.underlying145 (by kernel_rfl) rfl
theorem uj:El Tryz.prog pF bb 1 24 [sv (⟨none,0,0,none⟩:Sl)]:=vw Tryz.underlying155 (by kernel_rfl) rfl
theorem fM:El Tryz.prog bb t_uint64 1 8 [.int .u64 0]:=vw Tryz.underlying158 (by kernel_rfl) rfl
theorem el_Sapi_Line:El Tryz.prog qm t_api_Line 4 32 [.int .i64 0,.int .i64 0,.int .i64 0,.int .i64 0]:=vw Tryz.underlying173 (by kernel_rfl) rfl
theorem td:El Tryz.prog gM rB 2 16 [.int .i64 0,.int .i64 0]:=vw Tryz.underlying197 (by kernel_rfl) rfl
theorem el_S_8_api_Cap:El Tryz.prog t_S_8_api_Cap kO 32 256 [.int .i64 0,.int .i64 0,.int .i64 0,.int .i64 0,.int .i64 0,.int .i64 0,.int .i64 0,.int .i64 0,.int .i64 0,.int .i64 0,.int .i64 0,.int .i64 0,.int .i64 0,.int .i64 0,.int .i64 0,.int .i64 0,.int .i64 0,.int .i64 0,.int .i64 0,.int .i64 0,.int .i64 0,.int .i64 0,.int .i64 0,.int .i64 0,.int .i64 0,.int .i64 0,.int .i64 0,.int .i64 0,.int .i64 0,.int .i64 0,.int .i64 0,.int .i64 0]:=vw Tryz.underlying203 (by kernel_rfl) rfl
theorem el_Sapi_Pte:El Tryz.prog pE t_api_Pte 3 24 [.int .i64 0,.int .i64 0,.int .i64 0]:=vw Tryz.underlying234 (by kernel_rfl) rfl
theorem enter_hist_Order_c1:aJ Tryz.prog mM:=⟨_,Tryz.func86,by decide,rfl⟩
theorem enter_hist_Order_c2:aJ Tryz.prog qT:=⟨_,Tryz.func88,by decide,rfl⟩
theorem uE:aJ Tryz.prog ll:=⟨_,Tryz.func180,by decide,rfl⟩
theorem vv:aJ Tryz.prog gA:=⟨_,Tryz.func197,by decide,rfl⟩
theorem enter_hist_Over_c1:aJ Tryz.prog sR:=⟨_,Tryz.func215,by decide,rfl⟩
theorem mp_map_int_bool:Mp Tryz.prog jg kE t_bool (.bool false):=⟨Tryz.underlying50,⟨_,Tryz.underlying3⟩,kC (by kernel_rfl)⟩
theorem mp_map_int_int:Mp Tryz.prog gL kE kE (.int .i64 0):=⟨Tryz.underlying113,⟨_,Tryz.underlying3⟩,kC (by kernel_rfl)⟩
theorem agn_8_api_Pte:Ag Tryz.prog tA 24:=⟨⟨_,Tryz.underlying122,rfl⟩,bE (by kernel_rfl)⟩
theorem arn_8_api_Pte:Tryz.prog.underlying tA = some (.array 8 t_api_Pte):=Tryz.underlying122
theorem age_8_api_Pte:Ag Tryz.prog t_api_Pte 3:=⟨⟨_,Tryz.underlying121,rfl⟩,bE (by kernel_rfl)⟩
theorem arn_2_tlb_line:Tryz.prog.underlying t_2_tlb_line = some (.array 2 t_tlb_line):=Tryz.underlying163
theorem age_2_tlb_line:Ag Tryz.prog t_tlb_line 5:=⟨⟨_,Tryz.underlying162,rfl⟩,bE (by kernel_rfl)⟩
theorem agn_8_api_Cap:Ag Tryz.prog kO 32:=⟨⟨_,Tryz.underlying202,rfl⟩,bE (by kernel_rfl)⟩
theorem arn_8_api_Cap:Tryz.prog.underlying kO = some (.array 8 fF):=Tryz.underlying202
theorem age_8_api_Cap:Ag Tryz.prog fF 4:=⟨⟨_,Tryz.underlying37,rfl⟩,bE (by kernel_rfl)⟩
end Go.Proofs.YtmggcfijlpldpaaGreatDoor
namespace Go.Proofs.YtmggcfijlpldpaaGreatDoor
open Go Mb
set_option linter.unusedVariables false
def sh_word_Kind (a0:ah) (K:(Int × Bool)→Hp→Prop):Hp→Prop:=br (((decide (a0.e0 ≥ 1)) && (decide (a0.e0 ≤ 10))) || ((decide (a0.e0 ≥ 20)) && (decide (a0.e0 ≤ 23)))) ( K ((IntKind.i64.wrap a0.e0),true)) ( K (0,false))
theorem sim_word_Kind (a0:ah) {K:(Int × Bool)→Hp→Prop} {h:Hp} (H:sh_word_Kind a0 K h):Ct Tryz.prog n_word_Kind #[(.agg (ah.C a0).toArray)] h fun v h'=>∃ r,v = bI r∧K r h':=aw [(.agg (ah.C a0).toArray)] Tryz.func53 c c c fun _=>M<|aa<|cE (l:=ah.C a0) c c c fun b1=>p (aq c)<|O c<|aj<|M<|p (bu cX c c (by decide))<|bg (bd (k:=0) ck c c c) c<|O c<|M<|J c<|p (jy c c)<|J c<|V c c (ay _) (fun g1=>wv<|ae c)<|V c c (ay _) (fun g2=>wv<|v_le (aB c g2) c)<|p (bM c c)<|J c<|V c c (aK _) (fun g3=>wv<|ae c)<|V c c (aK _) (fun g4=>wv<|jy (aB c g4) c)<|V c c (aK _) (fun g5=>wv<|ae<|aB c g5)<|V c c (rc _ _) (fun g6=>wv<|ae c)<|V c c (rc _ _) (fun g7=>wv<|v_le (aB c g7) c)<|V c c (aK _) (fun g8=>wv<|bM (aB c g8)<|aL c<|wQ g8)<|p (dm c c)<|ac<|av c H (fun k9 H10=>M<|J c<|p (dP ⟨_,Tryz.underlying22⟩ Tryz.underlying3 c)<|p (aq c)<|O c<|ag<|bo (bL c (bV c)<|bV c) ⟨((IntKind.i64.wrap a0.e0),true),c,H10⟩) fun k9 H10=>am<|M<|p (aq c)<|O c<|ag<|bo (bL c (bV c)<|bV c) ⟨(0,false),c,H10⟩
def aC (a0:ah):Int × Bool:=(bif (((decide (a0.e0 ≥ 1)) && (decide (a0.e0 ≤ 10))) || ((decide (a0.e0 ≥ 20)) && (decide (a0.e0 ≤ 23)))) then (((IntKind.i64.wrap a0.e0),true)) else ((0,false)))
theorem pr_word_Kind (a0:ah) {K:(Int × Bool)→Hp→Prop} {h:Hp} (k:K (aC a0) h):sh_word_Kind a0 K h:=(jR (K:=K) (fun k=>k) (fun k=>k)) k
theorem jO (a0:ah) (h:Hp):Ct Tryz.prog n_word_Kind #[(.agg (ah.C a0).toArray)] h fun v h'=>∃ r,v = bI r∧(r = aC a0∧h' = h):=sim_word_Kind a0 (pr_word_Kind a0 ⟨rfl,rfl⟩)
def sh_word_User (a0:Int) (K:Bool→Hp→Prop):Hp→Prop:=K ((decide (a0 ≥ 20)) && (decide (a0 ≤ 23)))
theorem sim_word_User (a0:Int) {K:Bool→Hp→Prop} {h:Hp} (H:sh_word_User a0 K h):Ct Tryz.prog n_word_User #[(.int .i64 a0)] h fun v h'=>∃ r,v = az r∧K r h':=aw [(.int .i64 a0)] Tryz.func54 c c c fun _=>M<|O c<|M<|J c<|p (jy c c)<|J c<|V c c (ay _) (fun g1=>wv<|ae c)<|V c c (ay _) (fun g2=>wv<|v_le (aB c g2) c)<|p (bM c c)<|O c<|ag<|Y ⟨((decide (a0 ≥ 20)) && (decide (a0 ≤ 23))),c,H⟩
def dk (a0:Int):Bool:=(((decide (a0 ≥ 20)) && (decide (a0 ≤ 23))))
theorem pr_word_User (a0:Int) {K:Bool→Hp→Prop} {h:Hp} (k:K (dk a0) h):sh_word_User a0 K h:=(fun k=>k) k
theorem rV (a0:Int) (h:Hp):Ct Tryz.prog n_word_User #[(.int .i64 a0)] h fun v h'=>∃ r,v = az r∧(r = dk a0∧h' = h):=sim_word_User a0 (pr_word_User a0 ⟨rfl,rfl⟩)
def sh_word_Rights (a0:Int) (K:(Int × Bool)→Hp→Prop):Hp→Prop:=br ((decide (a0 < 1)) || (decide (a0 > 3))) ( K (0,false)) ( K ((IntKind.i64.wrap a0),true))
theorem sim_word_Rights (a0:Int) {K:(Int × Bool)→Hp→Prop} {h:Hp} (H:sh_word_Rights a0 K h):Ct Tryz.prog n_word_Rights #[(.int .u64 a0)] h fun v h'=>∃ r,v = bI r∧K r h':=aw [(.int .u64 a0)] Tryz.func186 c c c fun _=>M<|p (aq c)<|O c<|aj<|M<|J c<|p (cm c c)<|J c<|V c c (aK _) (fun g1=>wv<|ae c)<|V c c (aK _) (fun g2=>wv<|qi (aB c g2) c)<|p (dm c c)<|ac<|av c H (fun k3 H4=>M<|p (aq c)<|O c<|ag<|bo (bL c (bV c)<|bV c) ⟨(0,false),c,H4⟩) fun k3 H4=>am<|M<|J c<|p (dP ⟨_,Tryz.underlying22⟩ Tryz.underlying3 c)<|p (aq c)<|O c<|ag<|bo (bL c (bV c)<|bV c) ⟨((IntKind.i64.wrap a0),true),c,H4⟩
def kW (a0:Int):Int × Bool:=(bif ((decide (a0 < 1)) || (decide (a0 > 3))) then ((0,false)) else (((IntKind.i64.wrap a0),true)))
theorem pr_word_Rights (a0:Int) {K:(Int × Bool)→Hp→Prop} {h:Hp} (k:K (kW a0) h):sh_word_Rights a0 K h:=(jR (K:=K) (fun k=>k) (fun k=>k)) k
theorem ct_word_Rights (a0:Int) (h:Hp):Ct Tryz.prog n_word_Rights #[(.int .u64 a0)] h fun v h'=>∃ r,v = bI r∧(r = kW a0∧h' = h):=sim_word_Rights a0 (pr_word_Rights a0 ⟨rfl,rfl⟩)
def sh_table_is (a0:Int) (K:Bool→Hp→Prop):Hp→Prop:=K ((decide (a0 ≥ 0)) && (decide (a0 < 8)))
theorem sim_table_is (a0:Int) {K:Bool→Hp→Prop} {h:Hp} (H:sh_table_is a0 K h):Ct Tryz.prog n_table_is #[(.int .i64 a0)] h fun v h'=>∃ r,v = az r∧K r h':=aw [(.int .i64 a0)] Tryz.func150 c c c fun _=>M<|O c<|M<|J c<|p (jy c c)<|J c<|V c c (ay _) (fun g1=>wv<|ae c)<|V c c (ay _) (fun g2=>wv<|cm (aB c g2) c)<|p (bM c c)<|O c<|ag<|Y ⟨((decide (a0 ≥ 0)) && (decide (a0 < 8))),c,H⟩
def cw (a0:Int):Bool:=(((decide (a0 ≥ 0)) && (decide (a0 < 8))))
theorem pr_table_is (a0:Int) {K:Bool→Hp→Prop} {h:Hp} (k:K (cw a0) h):sh_table_is a0 K h:=(fun k=>k) k
theorem uk (a0:Int) (h:Hp):Ct Tryz.prog n_table_is #[(.int .i64 a0)] h fun v h'=>∃ r,v = az r∧(r = cw a0∧h' = h):=sim_table_is a0 (pr_table_is a0 ⟨rfl,rfl⟩)
def sh_pte_May (a0:Int) (K:Bool→Hp→Prop):Hp→Prop:=K ((decide (a0 ≥ 1)) && (decide (a0 ≤ 3)))
theorem sim_pte_May (a0:Int) {K:Bool→Hp→Prop} {h:Hp} (H:sh_pte_May a0 K h):Ct Tryz.prog n_pte_May #[(.int .i64 a0)] h fun v h'=>∃ r,v = az r∧K r h':=aw [(.int .i64 a0)] Tryz.func161 c c c fun _=>M<|O c<|M<|J c<|p (jy c c)<|J c<|V c c (ay _) (fun g1=>wv<|ae c)<|V c c (ay _) (fun g2=>wv<|v_le (aB c g2) c)<|p (bM c c)<|O c<|ag<|Y ⟨((decide (a0 ≥ 1)) && (decide (a0 ≤ 3))),c,H⟩
def cz (a0:Int):Bool:=(((decide (a0 ≥ 1)) && (decide (a0 ≤ 3))))
theorem pr_pte_May (a0:Int) {K:Bool→Hp→Prop} {h:Hp} (k:K (cz a0) h):sh_pte_May a0 K h:=(fun k=>k) k
theorem pT (a0:Int) (h:Hp):Ct Tryz.prog n_pte_May #[(.int .i64 a0)] h fun v h'=>∃ r,v = az r∧(r = cz a0∧h' = h):=sim_pte_May a0 (pr_pte_May a0 ⟨rfl,rfl⟩)
def sh_pte_Within (a0:Int) (a1:Int) (K:Bool→Hp→Prop):Hp→Prop:=K (((cz a0) && (cz a1)) && ((iandnot .i64 a0 a1) == 0))
theorem sim_pte_Within (a0:Int) (a1:Int) {K:Bool→Hp→Prop} {h:Hp} (H:sh_pte_Within a0 a1 K h):Ct Tryz.prog n_pte_Within #[(.int .i64 a0),(.int .i64 a1)] h fun v h'=>∃ r,v = az r∧K r h':=aw [(.int .i64 a0),(.int .i64 a1)] Tryz.func106 c c c fun _=>M<|O c<|M<|J c<|aa<|cD (vs:=[(.int .i64 a0)]) (bq<|pT a0 _) en_161 c c<|J c<|V c c (ay _) (fun g1=>wv<|ae c)<|cO (vs:=[(.int .i64 a1)]) c c c (ay _) (fun g2=>bq<|pT a1 _) en_161 (fun g2=>aS (aB c g2) bO) c<|p (bM c c)<|J c<|V c c (ay _) (fun g3=>wv<|ae c)<|V c c (ay _) (fun g4=>wv<|ae c)<|V c c (ay _) (fun g5=>wv<|v_iandnot (aB c g5)<|aB c g5)<|V c c (ay _) (fun g6=>wv<|bK (aB c g6) c)<|p (bM c c)<|O c<|ag<|Y ⟨(((cz a0) && (cz a1)) && ((iandnot .i64 a0 a1) == 0)),c,H⟩
def be (a0:Int) (a1:Int):Bool:=((((cz a0) && (cz a1)) && ((iandnot .i64 a0 a1) == 0)))
theorem pr_pte_Within (a0:Int) (a1:Int) {K:Bool→Hp→Prop} {h:Hp} (k:K (be a0 a1) h):sh_pte_Within a0 a1 K h:=(fun k=>k) k
theorem cU (a0:Int) (a1:Int) (h:Hp):Ct Tryz.prog n_pte_Within #[(.int .i64 a0),(.int .i64 a1)] h fun v h'=>∃ r,v = az r∧(r = be a0 a1∧h' = h):=sim_pte_Within a0 a1 (pr_pte_Within a0 a1 ⟨rfl,rfl⟩)
def sh_pte_Put (a0:al) (K:(Int × Bool)→Hp→Prop):Hp→Prop:=br (al.eqb a0 (⟨0,0,0⟩:al)) ( K (0,true)) ( br (((((decide (a0.fFrame < 0)) || (decide (a0.fFrame ≥ 16))) || (decide (a0.fSlot < 0))) || (decide (a0.fSlot ≥ 8))) || (!(cz a0.fRights))) ( K (0,false)) ( K ((IntKind.u64.wrap (IntKind.i64.wrap ((IntKind.i64.wrap ((IntKind.i64.wrap (32768 + (IntKind.i64.wrap (256 * a0.fFrame)))) + (IntKind.i64.wrap (16 * a0.fSlot)))) + a0.fRights))),true)))
theorem sim_pte_Put (a0:al) {K:(Int × Bool)→Hp→Prop} {h:Hp} (H:sh_pte_Put a0 K h):Ct Tryz.prog n_pte_Put #[(.agg (al.C a0).toArray)] h fun v h'=>∃ r,v = bG r∧K r h':=aw [(.agg (al.C a0).toArray)] Tryz.func149 c c c fun _=>M<|aa<|cE (l:=al.C a0) c c c fun b1=>p (aq c)<|O c<|aj<|M<|bg (bA (k:=0) dE c c c c) c<|p (aX (vs:=[]) c ki)<|p (v_eqA eqg_121 (eqr_121 9998 _ _) c c)<|ac<|av c H (fun k1 H2=>M<|p (aq c)<|O c<|ag<|bo (bL c (bV c)<|bV c) ⟨(0,true),c,H2⟩) fun k1 H2=>am<|aj<|M<|p (ad nH c)<|bg (bd (k:=0) aW c c c) c<|p (cm c c)<|J c<|V c c (aK _) (fun g3=>wv<|ad nH c)<|V c c (aK _) (fun g4=>cv<|bd (k:=0) aW (aB c g4) c c)<|V c c (aK _) (fun g5=>wv<|jy (aB c g5) c)<|p (dm c c)<|J c<|V c c (aK _) (fun g6=>wv<|ad pS c)<|V c c (aK _) (fun g7=>cv<|bd (k:=0) aW (aB c g7) c c)<|V c c (aK _) (fun g8=>wv<|cm (aB c g8) c)<|p (dm c c)<|J c<|V c c (aK _) (fun g9=>wv<|ad pS c)<|V c c (aK _) (fun g10=>cv<|bd (k:=0) aW (aB c g10) c c)<|V c c (aK _) (fun g11=>wv<|jy (aB c g11) c)<|p (dm c c)<|J c<|V c c (aK _) (fun g12=>wv<|ad dG c)<|V c c (aK _) (fun g13=>cv<|bd (k:=0) aW (aB c g13) c c)<|cO (vs:=[(.int .i64 a0.fRights)]) c c c (aK _) (fun g14=>bq<|pT a0.fRights _) en_161 (fun g14=>aS (aB c g14) bO) c<|V c c (aK _) (fun g15=>wv<|cf<|aB c g15)<|p (dm c c)<|ac<|av c H2 (fun k16 H17=>M<|p (aq c)<|O c<|ag<|bo (bL c (bV c)<|bV c) ⟨(0,false),c,H17⟩) fun k16 H17=>am<|M<|p (ad nH c)<|bg (bd (k:=0) aW c c c) c<|p (v_mul c c)<|p (bt c c)<|p (ad pS c)<|bg (bd (k:=0) aW c c c) c<|p (v_mul c c)<|p (bt c c)<|p (ad dG c)<|bg (bd (k:=0) aW c c c) c<|p (bt c c)<|p (dP ⟨_,Tryz.underlying3⟩ Tryz.underlying22 c)<|p (aq c)<|O c<|ag<|bo (bL c (bV c)<|bV c) ⟨((IntKind.u64.wrap (IntKind.i64.wrap ((IntKind.i64.wrap ((IntKind.i64.wrap (32768 + (IntKind.i64.wrap (256 * a0.fFrame)))) + (IntKind.i64.wrap (16 * a0.fSlot)))) + a0.fRights))),true),c,H17⟩
def gr (a0:al):Int × Bool:=(bif (al.eqb a0 (⟨0,0,0⟩:al)) then ((0,true)) else (bif (((((decide (a0.fFrame < 0)) || (decide (a0.fFrame ≥ 16))) || (decide (a0.fSlot < 0))) || (decide (a0.fSlot ≥ 8))) || (!(cz a0.fRights))) then ((0,false)) else (((IntKind.u64.wrap (IntKind.i64.wrap ((IntKind.i64.wrap ((IntKind.i64.wrap (32768 + (IntKind.i64.wrap (256 * a0.fFrame)))) + (IntKind.i64.wrap (16 * a0.fSlot)))) + a0.fRights))),true))))
theorem pr_pte_Put (a0:al) {K:(Int × Bool)→Hp→Prop} {h:Hp} (k:K (gr a0) h):sh_pte_Put a0 K h:=(jR (K:=K) (fun k=>k) (jR (K:=K) (fun k=>k) (fun k=>k))) k
theorem ct_pte_Put (a0:al) (h:Hp):Ct Tryz.prog n_pte_Put #[(.agg (al.C a0).toArray)] h fun v h'=>∃ r,v = bG r∧(r = gr a0∧h' = h):=sim_pte_Put a0 (pr_pte_Put a0 ⟨rfl,rfl⟩)
def sh_tlb_empty (K:ak→Hp→Prop):Hp→Prop:=K (⟨(-1),0,0,0⟩:ak)
theorem sim_tlb_empty {K:ak→Hp→Prop} {h:Hp} (H:sh_tlb_empty K h):Ct Tryz.prog n_tlb_empty #[] h fun v h'=>∃ r,v = R_api_Line r∧K r h':=aw [] Tryz.func146 c c c fun _=>M<|aa<|aI (l:=ak.C (⟨0,0,0,0⟩:ak)) kD c c fun b0=>ac<|M<|p (aX c<|build_52_0 (-1))<|aa<|aN (k:=0) (vs:=ak.C (⟨(-1),0,0,0⟩:ak)) fB c c c c c c c<|ac<|ag<|bo (lW c<|bv (k:=0) c gQ c c) ⟨(⟨(-1),0,0,0⟩:ak),c,H⟩
def gG:ak:=((⟨(-1),0,0,0⟩:ak))
theorem pr_tlb_empty {K:ak→Hp→Prop} {h:Hp} (k:K (gG) h):sh_tlb_empty K h:=(fun k=>k) k
theorem ct_tlb_empty (h:Hp):Ct Tryz.prog n_tlb_empty #[] h fun v h'=>∃ r,v = R_api_Line r∧(r = gG∧h' = h):=sim_tlb_empty (pr_tlb_empty ⟨rfl,rfl⟩)
def sh_pte_Lets (a0:Int) (a1:Int) (K:Bool→Hp→Prop):Hp→Prop:=br (a1 == 20) ( K (be 1 a0)) ( br (a1 == 21) ( K (be 2 a0)) ( br (a1 == 22) ( K (be 3 a0)) ( br (a1 == 23) ( K (be 3 a0)) ( K (be 0 a0)))))
theorem sim_pte_Lets (a0:Int) (a1:Int) {K:Bool→Hp→Prop} {h:Hp} (H:sh_pte_Lets a0 a1 K h):Ct Tryz.prog n_pte_Lets #[(.int .i64 a0),(.int .i64 a1)] h fun v h'=>∃ r,v = az r∧K r h':=aw [(.int .i64 a0),(.int .i64 a1)] Tryz.func152 c c c fun _=>M<|O c<|M<|O c<|aj<|M<|J c<|ac<|ax<|M<|p (bK c c)<|O c<|av c H (fun k1 H2=>ap<|O c<|M<|J c<|J c<|aa<|cD (vs:=[(.int .i64 1),(.int .i64 a0)]) (bq<|cU 1 a0 _) mj c c<|O c<|ag<|Y ⟨be 1 a0,c,H2⟩) fun k1 H2=>M<|p (bK c c)<|O c<|av c H2 (fun k3 H4=>ap<|O c<|M<|J c<|J c<|aa<|cD (vs:=[(.int .i64 2),(.int .i64 a0)]) (bq<|cU 2 a0 _) mj c c<|O c<|ag<|Y ⟨be 2 a0,c,H4⟩) fun k3 H4=>aj<|M<|p (bK c c)<|O c<|av c H4 (fun k5 H6=>am<|lq c k5<|ap<|O c<|M<|J c<|J c<|aa<|cD (vs:=[(.int .i64 3),(.int .i64 a0)]) (bq<|cU 3 a0 _) mj c c<|O c<|ag<|Y ⟨be 3 a0,c,H6⟩) fun k5 H6=>ap<|p (bK c c)<|O c<|av c H6 (fun k7 H8=>ap<|O c<|M<|J c<|J c<|aa<|cD (vs:=[(.int .i64 3),(.int .i64 a0)]) (bq<|cU 3 a0 _) mj c c<|O c<|ag<|Y ⟨be 3 a0,c,H8⟩) fun k7 H8=>am<|M<|J c<|J c<|aa<|cD (vs:=[(.int .i64 0),(.int .i64 a0)]) (bq<|cU 0 a0 _) mj c c<|O c<|ag<|Y ⟨be 0 a0,c,H8⟩
def dh (a0:Int) (a1:Int):Bool:=(bif (a1 == 20) then ((be 1 a0)) else (bif (a1 == 21) then ((be 2 a0)) else (bif (a1 == 22) then ((be 3 a0)) else (bif (a1 == 23) then ((be 3 a0)) else ((be 0 a0))))))
theorem pr_pte_Lets (a0:Int) (a1:Int) {K:Bool→Hp→Prop} {h:Hp} (k:K (dh a0 a1) h):sh_pte_Lets a0 a1 K h:=(jR (K:=K) (fun k=>k) (jR (K:=K) (fun k=>k) (jR (K:=K) (fun k=>k) (jR (K:=K) (fun k=>k) (fun k=>k))))) k
theorem jD (a0:Int) (a1:Int) (h:Hp):Ct Tryz.prog n_pte_Lets #[(.int .i64 a0),(.int .i64 a1)] h fun v h'=>∃ r,v = az r∧(r = dh a0 a1∧h' = h):=sim_pte_Lets a0 a1 (pr_pte_Lets a0 a1 ⟨rfl,rfl⟩)
def rv (a0:Int) (K:Bool→Hp→Prop):Hp→Prop:=K (a0 != a0)
theorem sim_cmp_isNaN_uint64 (a0:Int) {K:Bool→Hp→Prop} {h:Hp} (H:rv a0 K h):Ct Tryz.prog sS #[(.int .u64 a0)] h fun v h'=>∃ r,v = az r∧K r h':=aw [(.int .u64 a0)] Tryz.func213 c c c fun _=>M<|O c<|M<|J c<|J c<|p (nO c c)<|O c<|ag<|Y ⟨(a0 != a0),c,H⟩
def dl (a0:Int):Bool:=((a0 != a0))
theorem pr_cmp_isNaN_uint64 (a0:Int) {K:Bool→Hp→Prop} {h:Hp} (k:K (dl a0) h):rv a0 K h:=(fun k=>k) k
theorem rz (a0:Int) (h:Hp):Ct Tryz.prog sS #[(.int .u64 a0)] h fun v h'=>∃ r,v = az r∧(r = dl a0∧h' = h):=sim_cmp_isNaN_uint64 a0 (pr_cmp_isNaN_uint64 a0 ⟨rfl,rfl⟩)
def sE (a0:Int) (a1:Int) (K:Bool→Hp→Prop):Hp→Prop:=K (((dl a0) && (!(dl a1))) || (decide (a0 < a1)))
theorem sim_cmp_Less_uint64 (a0:Int) (a1:Int) {K:Bool→Hp→Prop} {h:Hp} (H:sE a0 a1 K h):Ct Tryz.prog ug #[(.int .u64 a0),(.int .u64 a1)] h fun v h'=>∃ r,v = az r∧K r h':=aw [(.int .u64 a0),(.int .u64 a1)] Tryz.func189 c c c fun _=>M<|O c<|M<|J c<|aa<|cD (vs:=[(.int .u64 a0)]) (bq<|rz a0 _) en_213 c c<|J c<|V c c (ay _) (fun g1=>wv<|ae c)<|cO (vs:=[(.int .u64 a1)]) c c c (ay _) (fun g2=>bq<|rz a1 _) en_213 (fun g2=>aS (aB c g2) bO) c<|V c c (ay _) (fun g3=>wv<|cf<|aB c g3)<|p (bM c c)<|J c<|V c c (aK _) (fun g4=>wv<|ae c)<|V c c (aK _) (fun g5=>wv<|ae c)<|V c c (aK _) (fun g6=>wv<|cm (aB c g6)<|aB c g6)<|p (dm c c)<|O c<|ag<|Y ⟨(((dl a0) && (!(dl a1))) || (decide (a0 < a1))),c,H⟩
def gZ (a0:Int) (a1:Int):Bool:=((((dl a0) && (!(dl a1))) || (decide (a0 < a1))))
theorem pr_cmp_Less_uint64 (a0:Int) (a1:Int) {K:Bool→Hp→Prop} {h:Hp} (k:K (gZ a0 a1) h):sE a0 a1 K h:=(fun k=>k) k
theorem ct_cmp_Less_uint64 (a0:Int) (a1:Int) (h:Hp):Ct Tryz.prog ug #[(.int .u64 a0),(.int .u64 a1)] h fun v h'=>∃ r,v = az r∧(r = gZ a0 a1∧h' = h):=sim_cmp_Less_uint64 a0 a1 (pr_cmp_Less_uint64 a0 a1 ⟨rfl,rfl⟩)
def nZ (a0:Int) (K:Bool→Hp→Prop):Hp→Prop:=K (a0 != a0)
theorem uK (a0:Int) {K:Bool→Hp→Prop} {h:Hp} (H:nZ a0 K h):Ct Tryz.prog pu #[(.int .u64 a0)] h fun v h'=>∃ r,v = az r∧K r h':=aw [(.int .u64 a0)] Tryz.func190 c c c fun _=>M<|O c<|M<|J c<|J c<|p (nO c c)<|O c<|ag<|Y ⟨(a0 != a0),c,H⟩
def dz (a0:Int):Bool:=((a0 != a0))
theorem wz (a0:Int) {K:Bool→Hp→Prop} {h:Hp} (k:K (dz a0) h):nZ a0 K h:=(fun k=>k) k
theorem oM (a0:Int) (h:Hp):Ct Tryz.prog pu #[(.int .u64 a0)] h fun v h'=>∃ r,v = az r∧(r = dz a0∧h' = h):=uK a0 (wz a0 ⟨rfl,rfl⟩)
def sh_plain_fails (a0:Int) (K:(ab × Bool)→Hp→Prop):Hp→Prop:=K ((⟨a0,0⟩:ab),true)
theorem sim_plain_fails (a0:Int) {K:(ab × Bool)→Hp→Prop} {h:Hp} (H:sh_plain_fails a0 K h):Ct Tryz.prog n_plain_fails #[(.int .i64 a0)] h fun v h'=>∃ r,v = bf r∧K r h':=aw [(.int .i64 a0)] Tryz.func113 c c c fun _=>M<|aa<|aI (l:=ab.C (⟨0,0⟩:ab)) cQ c c fun b2=>O c<|M<|J c<|p (aX c<|iW a0)<|aa<|aN (k:=0) (vs:=ab.C (⟨a0,0⟩:ab)) bJ c c c c c c c<|O c<|ag<|bo (bL c (bv (k:=0) c cx c c)<|bV c) ⟨((⟨a0,0⟩:ab),true),c,H⟩
def aO (a0:Int):ab × Bool:=(((⟨a0,0⟩:ab),true))
theorem pr_plain_fails (a0:Int) {K:(ab × Bool)→Hp→Prop} {h:Hp} (k:K (aO a0) h):sh_plain_fails a0 K h:=(fun k=>k) k
theorem dD (a0:Int) (h:Hp):Ct Tryz.prog n_plain_fails #[(.int .i64 a0)] h fun v h'=>∃ r,v = bf r∧(r = aO a0∧h' = h):=sim_plain_fails a0 (pr_plain_fails a0 ⟨rfl,rfl⟩)
def sh_pred_Holds (a0:Int) (a1:Int) (a2:Int) (K:Bool→Hp→Prop):Hp→Prop:=br (a0 == 1) ( K (a1 == a2)) ( br (a0 == 2) ( K (a1 != a2)) ( br (a0 == 3) ( K (decide (a1 < a2))) ( br (a0 == 4) ( K (decide (a1 > a2))) ( K false))))
theorem sim_pred_Holds (a0:Int) (a1:Int) (a2:Int) {K:Bool→Hp→Prop} {h:Hp} (H:sh_pred_Holds a0 a1 a2 K h):Ct Tryz.prog n_pred_Holds #[(.int .i64 a0),(.int .u64 a1),(.int .u64 a2)] h fun v h'=>∃ r,v = az r∧K r h':=aw [(.int .i64 a0),(.int .u64 a1),(.int .u64 a2)] Tryz.func140 c c c fun _=>M<|O c<|aj<|M<|J c<|ac<|ax<|M<|p (bK c c)<|O c<|av c H (fun k1 H2=>M<|J c<|J c<|p (bK c c)<|O c<|ag<|Y ⟨(a1 == a2),c,H2⟩) fun k1 H2=>M<|p (bK c c)<|O c<|av c H2 (fun k3 H4=>M<|J c<|J c<|p (nO c c)<|O c<|ag<|Y ⟨(a1 != a2),c,H4⟩) fun k3 H4=>M<|p (bK c c)<|O c<|av c H4 (fun k5 H6=>M<|J c<|J c<|p (cm c c)<|O c<|ag<|Y ⟨decide (a1 < a2),c,H6⟩) fun k5 H6=>M<|p (bK c c)<|O c<|av c H6 (fun k7 H8=>M<|J c<|J c<|p (qi c c)<|O c<|ag<|Y ⟨decide (a1 > a2),c,H8⟩) fun k7 H8=>am<|M<|O c<|ag<|Y ⟨false,c,H8⟩
def mA (a0:Int) (a1:Int) (a2:Int):Bool:=(bif (a0 == 1) then ((a1 == a2)) else (bif (a0 == 2) then ((a1 != a2)) else (bif (a0 == 3) then ((decide (a1 < a2))) else (bif (a0 == 4) then ((decide (a1 > a2))) else (false)))))
theorem pr_pred_Holds (a0:Int) (a1:Int) (a2:Int) {K:Bool→Hp→Prop} {h:Hp} (k:K (mA a0 a1 a2) h):sh_pred_Holds a0 a1 a2 K h:=(jR (K:=K) (fun k=>k) (jR (K:=K) (fun k=>k) (jR (K:=K) (fun k=>k) (jR (K:=K) (fun k=>k) (fun k=>k))))) k
theorem uG (a0:Int) (a1:Int) (a2:Int) (h:Hp):Ct Tryz.prog n_pred_Holds #[(.int .i64 a0),(.int .u64 a1),(.int .u64 a2)] h fun v h'=>∃ r,v = az r∧(r = mA a0 a1 a2∧h' = h):=sim_pred_Holds a0 a1 a2 (pr_pred_Holds a0 a1 a2 ⟨rfl,rfl⟩)
def sh_hist_one (a0:ar) (a1:aA) (a2:Int) (K:Bool→Hp→Prop):Hp→Prop:=br (((((decide (a0.fCore < 0)) || (decide (a0.fCore ≥ a1.fCores))) || (decide (a0.fEnv < 0))) || (decide (a0.fEnv ≥ a1.fEnvs))) || (decide (a0.fBegin ≤ a2))) ( K false) ( br (a0.fEffect == 0) ( K (a0.fEnd == 0)) ( K ((decide (a0.fEffect ≥ a0.fBegin)) && ((a0.fEnd == 0) || (decide (a0.fEnd ≥ a0.fEffect))))))
theorem sim_hist_one (a0:ar) (a1:aA) (a2:Int) {K:Bool→Hp→Prop} {h:Hp} (H:sh_hist_one a0 a1 a2 K h):Ct Tryz.prog n_hist_one #[(.agg (ar.C a0).toArray),(.agg (aA.C a1).toArray),(.int .i64 a2)] h fun v h'=>∃ r,v = az r∧K r h':=aw [(.agg (ar.C a0).toArray),(.agg (aA.C a1).toArray),(.int .i64 a2)] Tryz.func69 c c c fun _=>M<|aa<|cE (l:=ar.C a0) c c c fun b3=>aa<|cE (l:=aA.C a1) c c c fun b4=>O c<|aj<|ax<|M<|p (ad qD c)<|bg (bd (k:=1) aW c c c) c<|p (cm c c)<|J c<|V c c (aK _) (fun g1=>wv<|ad qD c)<|V c c (aK _) (fun g2=>cv<|bd (k:=1) aW (aB c g2) c c)<|V c c (aK _) (fun g3=>wv<|ad oL c)<|V c c (aK _) (fun g4=>cv<|bd (k:=0) aW (aB c g4) c c)<|V c c (aK _) (fun g5=>wv<|jy (aB c g5)<|aB c g5)<|p (dm c c)<|J c<|V c c (aK _) (fun g6=>wv<|ad oK c)<|V c c (aK _) (fun g7=>cv<|bd (k:=1) aW (aB c g7) c c)<|V c c (aK _) (fun g8=>wv<|cm (aB c g8) c)<|p (dm c c)<|J c<|V c c (aK _) (fun g9=>wv<|ad oK c)<|V c c (aK _) (fun g10=>cv<|bd (k:=1) aW (aB c g10) c c)<|V c c (aK _) (fun g11=>wv<|ad mE c)<|V c c (aK _) (fun g12=>cv<|bd (k:=0) aW (aB c g12) c c)<|V c c (aK _) (fun g13=>wv<|jy (aB c g13)<|aB c g13)<|p (dm c c)<|J c<|V c c (aK _) (fun g14=>wv<|ad sX c)<|V c c (aK _) (fun g15=>cv<|bd (k:=1) aW (aB c g15) c c)<|V c c (aK _) (fun g16=>wv<|ae c)<|V c c (aK _) (fun g17=>wv<|v_le (aB c g17)<|aB c g17)<|p (dm c c)<|O c<|av c H (fun k18 H19=>M<|O c<|ag<|Y ⟨false,c,H19⟩) fun k18 H19=>M<|p (ad iO c)<|bg (bd (k:=1) aW c c c) c<|p (bK c c)<|O c<|av c H19 (fun k20 H21=>M<|p (ad qC c)<|bg (bd (k:=1) aW c c c) c<|p (bK c c)<|O c<|ag<|Y ⟨(a0.fEnd == 0),c,H21⟩) fun k20 H21=>am<|M<|p (ad iO c)<|bg (bd (k:=1) aW c c c) c<|p (ad sX c)<|bg (bd (k:=1) aW c c c) c<|p (jy c c)<|J c<|V c c (ay _) (fun g22=>wv<|ad qC c)<|V c c (ay _) (fun g23=>cv<|bd (k:=1) aW (aB c g23) c c)<|V c c (ay _) (fun g24=>wv<|bK (aB c g24) c)<|V c c (ay _) (fun g25=>wv<|ae<|aB c g25)<|V c c (dO _ _) (fun g26=>wv<|ad qC c)<|V c c (dO _ _) (fun g27=>cv<|bd (k:=1) aW (aB c g27) c c)<|V c c (dO _ _) (fun g28=>wv<|ad iO c)<|V c c (dO _ _) (fun g29=>cv<|bd (k:=1) aW (aB c g29) c c)<|V c c (dO _ _) (fun g30=>wv<|jy (aB c g30)<|aB c g30)<|V c c (ay _) (fun g31=>wv<|dm (aB c g31)<|aL c<|wQ g31)<|p (bM c c)<|O c<|ag<|Y ⟨((decide (a0.fEffect ≥ a0.fBegin)) && ((a0.fEnd == 0) || (decide (a0.fEnd ≥ a0.fEffect)))),c,H21⟩
def fu (a0:ar) (a1:aA) (a2:Int):Bool:=(bif (((((decide (a0.fCore < 0)) || (decide (a0.fCore ≥ a1.fCores))) || (decide (a0.fEnv < 0))) || (decide (a0.fEnv ≥ a1.fEnvs))) || (decide (a0.fBegin ≤ a2))) then (false) else (bif (a0.fEffect == 0) then ((a0.fEnd == 0)) else (((decide (a0.fEffect ≥ a0.fBegin)) && ((a0.fEnd == 0) || (decide (a0.fEnd ≥ a0.fEffect)))))))
theorem pr_hist_one (a0:ar) (a1:aA) (a2:Int) {K:Bool→Hp→Prop} {h:Hp} (k:K (fu a0 a1 a2) h):sh_hist_one a0 a1 a2 K h:=(jR (K:=K) (fun k=>k) (jR (K:=K) (fun k=>k) (fun k=>k))) k
theorem ct_hist_one (a0:ar) (a1:aA) (a2:Int) (h:Hp):Ct Tryz.prog n_hist_one #[(.agg (ar.C a0).toArray),(.agg (aA.C a1).toArray),(.int .i64 a2)] h fun v h'=>∃ r,v = az r∧(r = fu a0 a1 a2∧h' = h):=sim_hist_one a0 a1 a2 (pr_hist_one a0 a1 a2 ⟨rfl,rfl⟩)
def uZ (a0:ar) (K:Bool→Hp→Prop):Hp→Prop:=K (decide (a0.fEffect > 0))
theorem sim_hist_Order_c1 (a0:ar) {K:Bool→Hp→Prop} {h:Hp} (H:uZ a0 K h):Ct Tryz.prog mM #[(.agg (ar.C a0).toArray)] h fun v h'=>∃ r,v = az r∧K r h':=aw [(.agg (ar.C a0).toArray)] Tryz.func86 c c c fun _=>M<|aa<|cE (l:=ar.C a0) c c c fun b1=>O c<|M<|p (ad iO c)<|bg (bd (k:=0) aW c c c) c<|p (qi c c)<|O c<|ag<|Y ⟨decide (a0.fEffect > 0),c,H⟩
def vh (a0:ar):Bool:=((decide (a0.fEffect > 0)))
theorem pr_hist_Order_c1 (a0:ar) {K:Bool→Hp→Prop} {h:Hp} (k:K (vh a0) h):uZ a0 K h:=(fun k=>k) k
theorem ct_hist_Order_c1 (a0:ar) (h:Hp):Ct Tryz.prog mM #[(.agg (ar.C a0).toArray)] h fun v h'=>∃ r,v = az r∧(r = vh a0∧h' = h):=sim_hist_Order_c1 a0 (pr_hist_Order_c1 a0 ⟨rfl,rfl⟩)
def va (a0:Int) (K:Bool→Hp→Prop):Hp→Prop:=K (a0 != a0)
theorem sim_cmp_isNaN_int (a0:Int) {K:Bool→Hp→Prop} {h:Hp} (H:va a0 K h):Ct Tryz.prog n_cmp_isNaN_int #[(.int .i64 a0)] h fun v h'=>∃ r,v = az r∧K r h':=aw [(.int .i64 a0)] Tryz.func144 c c c fun _=>M<|O c<|M<|J c<|J c<|p (nO c c)<|O c<|ag<|Y ⟨(a0 != a0),c,H⟩
def dZ (a0:Int):Bool:=((a0 != a0))
theorem pr_cmp_isNaN_int (a0:Int) {K:Bool→Hp→Prop} {h:Hp} (k:K (dZ a0) h):va a0 K h:=(fun k=>k) k
theorem vy (a0:Int) (h:Hp):Ct Tryz.prog n_cmp_isNaN_int #[(.int .i64 a0)] h fun v h'=>∃ r,v = az r∧(r = dZ a0∧h' = h):=sim_cmp_isNaN_int a0 (pr_cmp_isNaN_int a0 ⟨rfl,rfl⟩)
def sF (a0:Int) (a1:Int) (K:Int→Hp→Prop):Hp→Prop:=br (dZ a0) ( br (dZ a1) ( K 0) ( K (-1))) ( br (dZ a1) ( K 1) ( br (decide (a0 < a1)) ( K (-1)) ( br (decide (a0 > a1)) ( K 1) ( K 0))))
theorem sim_cmp_Compare_int (a0:Int) (a1:Int) {K:Int→Hp→Prop} {h:Hp} (H:sF a0 a1 K h):Ct Tryz.prog uh #[(.int .i64 a0),(.int .i64 a1)] h fun v h'=>∃ r,v = eo r∧K r h':=aw [(.int .i64 a0),(.int .i64 a1)] Tryz.func89 c c c fun _=>M<|O c<|M<|J c<|aa<|cD (vs:=[(.int .i64 a0)]) (bq<|vy a0 _) en_144 c c<|O c<|M<|J c<|aa<|cD (vs:=[(.int .i64 a1)]) (bq<|vy a1 _) en_144 c c<|O c<|aj<|M<|J c<|ac<|av c H (fun k1 H2=>aj<|M<|J c<|ac<|av c H2 (fun k3 H4=>M<|O c<|ag<|Y ⟨0,c,H4⟩) fun k3 H4=>am<|M<|O c<|ag<|Y ⟨(-1),c,H4⟩) fun k1 H2=>am<|aj<|M<|J c<|ac<|av c H2 (fun k5 H6=>M<|O c<|ag<|Y ⟨1,c,H6⟩) fun k5 H6=>am<|aj<|M<|J c<|J c<|p (cm c c)<|ac<|av c H6 (fun k7 H8=>M<|O c<|ag<|Y ⟨(-1),c,H8⟩) fun k7 H8=>am<|aj<|M<|J c<|J c<|p (qi c c)<|ac<|av c H8 (fun k9 H10=>M<|O c<|ag<|Y ⟨1,c,H10⟩) fun k9 H10=>am<|M<|O c<|ag<|Y ⟨0,c,H10⟩
def fG (a0:Int) (a1:Int):Int:=(bif (dZ a0) then (bif (dZ a1) then (0) else ((-1))) else (bif (dZ a1) then (1) else (bif (decide (a0 < a1)) then ((-1)) else (bif (decide (a0 > a1)) then (1) else (0)))))
theorem pr_cmp_Compare_int (a0:Int) (a1:Int) {K:Int→Hp→Prop} {h:Hp} (k:K (fG a0 a1) h):sF a0 a1 K h:=(jR (K:=K) (jR (K:=K) (fun k=>k) (fun k=>k)) (jR (K:=K) (fun k=>k) (jR (K:=K) (fun k=>k) (jR (K:=K) (fun k=>k) (fun k=>k))))) k
theorem ct_cmp_Compare_int (a0:Int) (a1:Int) (h:Hp):Ct Tryz.prog uh #[(.int .i64 a0),(.int .i64 a1)] h fun v h'=>∃ r,v = eo r∧(r = fG a0 a1∧h' = h):=sim_cmp_Compare_int a0 a1 (pr_cmp_Compare_int a0 a1 ⟨rfl,rfl⟩)
def sh_judge_user (a0:ar) (K:Bool→Hp→Prop):Hp→Prop:=K (dk ((aC a0.fCall).1))
theorem sim_judge_user (a0:ar) {K:Bool→Hp→Prop} {h:Hp} (H:sh_judge_user a0 K h):Ct Tryz.prog n_judge_user #[(.agg (ar.C a0).toArray)] h fun v h'=>∃ r,v = az r∧K r h':=aw [(.agg (ar.C a0).toArray)] Tryz.func131 c c c fun _=>M<|aa<|cE (l:=ar.C a0) c c c fun b1=>O c<|M<|p (ad mB c)<|bg (bA (k:=0) fj c c c c) c<|aa<|cD (vs:=[(.agg (ah.C a0.fCall).toArray)]) (bq<|jO a0.fCall _) en_53 c c<|J c<|p (ai c c)<|p (ai c c)<|p (aq c)<|O c<|M<|J c<|aa<|cD (vs:=[(.int .i64 ((aC a0.fCall).1))]) (bq<|rV (aC a0.fCall).1 _) en_54 c c<|O c<|ag<|Y ⟨dk (aC a0.fCall).1,c,H⟩
def pX (a0:ar):Bool:=((dk ((aC a0.fCall).1)))
theorem pr_judge_user (a0:ar) {K:Bool→Hp→Prop} {h:Hp} (k:K (pX a0) h):sh_judge_user a0 K h:=(fun k=>k) k
theorem ct_judge_user (a0:ar) (h:Hp):Ct Tryz.prog n_judge_user #[(.agg (ar.C a0).toArray)] h fun v h'=>∃ r,v = az r∧(r = pX a0∧h' = h):=sim_judge_user a0 (pr_judge_user a0 ⟨rfl,rfl⟩)
end Go.Proofs.YtmggcfijlpldpaaGreatDoor
namespace Go.Proofs.YtmggcfijlpldpaaGreatDoor
open Go Mb
set_option linter.unusedVariables false
def tD (a0:Ptr) (K:(Int × Bool)→Hp→Prop):Hp→Prop:=br a0.isNone ( K (0,false)) ( nn a0 fun q8=>ld (q8.1,q8.2 + 0) cS fun x10=>cl Tryz.prog jK [(sv x10),(.int .i64 0)] eo fun r11=>br (decide (r11 < 0)) ( K (0,false)) ( ld (q8.1,q8.2 + 0) cS fun x17=>ix x17 r11 fun q19=>st (q19.1,q19.2 + Int.toNat r11 * 1) [.int .i64 1]<|K (r11,true)))
theorem sim_pool_Pool_Take (a0:Ptr) {K:(Int × Bool)→Hp→Prop} {h:Hp} (H:tD a0 K h):Ct Tryz.prog jk #[(pv a0)] h fun v h'=>∃ r,v = bI r∧K r h':=aw [(pv a0)] Tryz.func166 c c c fun _=>M<|p (aq c)<|O c<|aj<|M<|J c<|p (ch Tryz.underlying146 c)<|ac<|av c H (fun k1 H2=>M<|p (aq c)<|O c<|ag<|bo (bL c (bV c)<|bV c) ⟨(0,false),c,H2⟩) fun k1 H2=>am<|M<|J c<|bC H2 fun q8 e3 H4=>p (aH<|aL c<|ao e3)<|p (ad nF c)<|aa<|aT H4 sc_40 c (fun _=>c) c fun x10 H5=>aa<|D H5 en_193 fun r11 _ H6=>O c<|aj<|M<|J c<|p (cm c c)<|ac<|av c H6 (fun k7 H8=>M<|p (aq c)<|O c<|ag<|bo (bL c (bV c)<|bV c) ⟨(0,false),c,H8⟩) fun k7 H8=>am<|M<|J (aL c<|ao e3)<|p (aH c)<|p (ad nF c)<|aa<|aT H8 sc_40 c (fun _=>c) c fun x17 H9=>J c<|cg H9 fun q19 e10 h11 H12=>p (bm gV (aL c<|aY e10) c h11)<|aa<|dq qB c c c c c H12 fun _ H13=>ac<|M<|J c<|p (aq c)<|O c<|ag<|bo (bL c (bV c)<|bV c) ⟨(r11,true),c,H13⟩
def tE (a0:Ptr) (a1:Int) (K:Int→Hp→Prop):Hp→Prop:=br (!(a0.isNone || (decide (a1 < 0)))) ( nn a0 fun q14=>ld (q14.1,q14.2 + 0) cS fun x16=>br (decide (a1 ≥ (x16.len:Int))) ( K 0) ( ld (q14.1,q14.2 + 0) cS fun x23=>ix x23 a1 fun q25=>ld (q25.1,q25.2 + Int.toNat a1 * 1) (cI .i64) fun x26=>K x26)) ( K 0)
theorem sim_pool_Pool_Refs (a0:Ptr) (a1:Int) {K:Int→Hp→Prop} {h:Hp} (H:tE a0 a1 K h):Ct Tryz.prog jl #[(pv a0),(.int .i64 a1)] h fun v h'=>∃ r,v = eo r∧K r h':=aw [(pv a0),(.int .i64 a1)] Tryz.func194 c c c fun _=>M<|O c<|aj<|M<|J c<|p (ch Tryz.underlying146 c)<|J c<|V c c (aK _) (fun g1=>wv<|ae c)<|V c c (aK _) (fun g2=>wv<|cm (aB c g2) c)<|p (dm c c)<|J c<|V c c (aK _) (fun g3=>wv<|ae c)<|V c c (aK _) (fun g4=>wv<|ae c)<|bP H (fun k6 H7=>bC H7 fun q14 e8 H9=>G (Z<|bS k6)<|z_p (aH<|aL (aB c k6)<|ao e8)<|G (Z<|bS k6)<|z_p (ad nF c)<|G (Z<|bS k6)<|aT H9 sc_40 c (fun _=>c) c fun x16 H10=>G (Z<|bS k6)<|z_p (dv c Tryz.underlying40 c)<|G (Z<|bS k6)<|z_p (jy (aB c k6) c)<|p (an c (bS k6) c)<|ac<|av c H10 (fun k11 H12=>M<|O c<|ag<|Y ⟨0,c,H12⟩) fun k11 H12=>am<|M<|J (aL c<|ao e8)<|p (aH c)<|p (ad nF c)<|aa<|aT H12 sc_40 c (fun _=>c) c fun x23 H13=>J c<|cg H13 fun q25 e14 h15 H16=>p (bm gV (aL c<|aY e14) c h15)<|aa<|aT H16 aW c (fun _=>c) c fun x26 H17=>O c<|ag<|Y ⟨x26,c,H17⟩) fun k6 H7=>W (bF<|bz k6)<|W (bF<|bz k6)<|W (bF<|bz k6)<|W (bF<|bz k6)<|W (bF<|bz k6)<|p (aM c (bz k6) c)<|ac<|lq c c<|M<|O c<|ag<|Y ⟨0,c,H7⟩
def tF (a0:Ptr) (a1:Int) (K:Bool→Hp→Prop):Hp→Prop:=cl Tryz.prog jl [(pv a0),(.int .i64 a1)] eo fun r8=>br ((r8 == 0) || (decide (r8 ≥ 7))) ( K false) ( nn a0 fun q16=>ld (q16.1,q16.2 + 0) cS fun x18=>ix x18 a1 fun q20=>ld (q20.1,q20.2 + Int.toNat a1 * 1) (cI .i64) fun x21=>st (q20.1,q20.2 + Int.toNat a1 * 1) [.int .i64 (IntKind.i64.wrap (x21 + 1))]<|K true)
theorem sim_pool_Pool_Hold (a0:Ptr) (a1:Int) {K:Bool→Hp→Prop} {h:Hp} (H:tF a0 a1 K h):Ct Tryz.prog lF #[(pv a0),(.int .i64 a1)] h fun v h'=>∃ r,v = az r∧K r h':=aw [(pv a0),(.int .i64 a1)] Tryz.func168 c c c fun _=>M<|O c<|aj<|M<|J c<|J c<|aa<|D H en_194 fun r8 _ H1=>O c<|M<|J c<|p (bK c c)<|J c<|V c c (aK _) (fun g2=>wv<|ae c)<|V c c (aK _) (fun g3=>wv<|jy (aB c g3) c)<|p (dm c c)<|ac<|av c H1 (fun k4 H5=>M<|O c<|ag<|Y ⟨false,c,H5⟩) fun k4 H5=>am<|M<|J c<|bC H5 fun q16 e6 H7=>p (aH<|aL c<|ao e6)<|p (ad nF c)<|aa<|aT H7 sc_40 c (fun _=>c) c fun x18 H8=>J c<|cg H8 fun q20 e9 h10 H11=>p (bm gV (aL c<|aY e9) c h10)<|aa<|aT H11 aW c (fun _=>c) c fun x21 H12=>p (bt c c)<|p (bm gV (aL c<|aY e9) c h10)<|aa<|dq qB c c c c c H12 fun _ H13=>ac<|M<|O c<|ag<|Y ⟨true,c,H13⟩
def uT (a0:Ptr) (a1:Int) (K:(Int × Bool)→Hp→Prop):Hp→Prop:=cl Tryz.prog jl [(pv a0),(.int .i64 a1)] eo fun r8=>br (r8 == 0) ( K (0,false)) ( nn a0 fun q11=>ld (q11.1,q11.2 + 0) cS fun x13=>ix x13 a1 fun q15=>ld (q15.1,q15.2 + Int.toNat a1 * 1) (cI .i64) fun x16=>st (q15.1,q15.2 + Int.toNat a1 * 1) [.int .i64 (IntKind.i64.wrap (x16 - 1))]<|ld (q11.1,q11.2 + 0) cS fun x22=>ix x22 a1 fun q24=>ld (q24.1,q24.2 + Int.toNat a1 * 1) (cI .i64) fun x25=>K (x25,true))
theorem sim_pool_Pool_Let (a0:Ptr) (a1:Int) {K:(Int × Bool)→Hp→Prop} {h:Hp} (H:uT a0 a1 K h):Ct Tryz.prog mJ #[(pv a0),(.int .i64 a1)] h fun v h'=>∃ r,v = bI r∧K r h':=aw [(pv a0),(.int .i64 a1)] Tryz.func172 c c c fun _=>M<|p (aq c)<|O c<|aj<|M<|J c<|J c<|aa<|D H en_194 fun r8 _ H1=>p (bK c c)<|ac<|av c H1 (fun k2 H3=>M<|p (aq c)<|O c<|ag<|bo (bL c (bV c)<|bV c) ⟨(0,false),c,H3⟩) fun k2 H3=>am<|M<|J c<|bC H3 fun q11 e4 H5=>p (aH<|aL c<|ao e4)<|p (ad nF c)<|aa<|aT H5 sc_40 c (fun _=>c) c fun x13 H6=>J c<|cg H6 fun q15 e7 h8 H9=>p (bm gV (aL c<|aY e7) c h8)<|aa<|aT H9 aW c (fun _=>c) c fun x16 H10=>p (v_sub c c)<|p (bm gV (aL c<|aY e7) c h8)<|aa<|dq qB c c c c c H10 fun _ H11=>ac<|M<|J (aL c<|ao e4)<|p (aH c)<|p (ad nF c)<|aa<|aT H11 sc_40 c (fun _=>c) c fun x22 H12=>J c<|cg H12 fun q24 e13 h14 H15=>p (bm gV (aL c<|aY e13) c h14)<|aa<|aT H15 aW c (fun _=>c) c fun x25 H16=>p (aq c)<|O c<|ag<|bo (bL c (bV c)<|bV c) ⟨(x25,true),c,H16⟩
def sh_pool_New (a0:Int) (K:Ptr→Hp→Prop):Hp→Prop:=br ((decide (a0 < 1)) || (decide (a0 > 16))) ( K none) ( hpv Tryz.prog (Instr.makeSlice dB (.int .i64 a0) (.int .i64 a0)) ct fun (v10:Sl)=>nw qj (nI.C (⟨v10⟩:nI)) fun b12=>K (some (b12,0)))
theorem sim_pool_New (a0:Int) {K:Ptr→Hp→Prop} {h:Hp} (H:sh_pool_New a0 K h):Ct Tryz.prog wG #[(.int .i64 a0)] h fun v h'=>∃ r,v = rX r∧K r h':=aw [(.int .i64 a0)] Tryz.func94 c c c fun _=>M<|O c<|aj<|M<|J c<|p (cm c c)<|J c<|V c c (aK _) (fun g1=>wv<|ae c)<|V c c (aK _) (fun g2=>wv<|qi (aB c g2) c)<|p (dm c c)<|ac<|av c H (fun k3 H4=>M<|O c<|ag<|Y ⟨none,c,H4⟩) fun k3 H4=>am<|M<|J c<|aa<|aR H4 (jz c c) c fun v10 _ H5=>p (aX c<|build_207_0 v10)<|aa<|gT c c c H5 fun b12 _ H6=>O c<|ag<|Y ⟨some (b12,0),c,H6⟩
def oq (K:Sl→Hp→Prop) (x11:Sl) (Rec7:(Sl × Int)→Hp→Prop) (s6:Sl × Int):Hp→Prop:=br (decide (s6.2 < (x11.len:Int))) ( ix x11 s6.2 fun q16=>ld (q16.1,q16.2 + Int.toNat s6.2 * 1) (cI .i64) fun x17=>br (x17 == 0) ( hpv Tryz.prog (Instr.buildSlice dB 1 #[(0,(.int .i64 s6.2))]) ct fun (v22:Sl)=>hpv Tryz.prog (Builtin.append_ #[dB,dB] dB #[(sv s6.1),(sv v22)]) ct fun (v23:Sl)=>Rec7 (v23,(IntKind.i64.wrap (s6.2 + 1)))) ( Rec7 (s6.1,(IntKind.i64.wrap (s6.2 + 1))))) ( K s6.1)
def tG (a0:Ptr) (K:Sl→Hp→Prop):Hp→Prop:=br a0.isNone ( K (⟨none,0,0,none⟩:Sl)) ( nn a0 fun q9=>ld (q9.1,q9.2 + 0) cS fun x11=>Lp (oq K x11) ((⟨none,0,0,none⟩:Sl),0))
theorem sim_pool_Pool_Free (a0:Ptr) {K:Sl→Hp→Prop} {h:Hp} (H:tG a0 K h):Ct Tryz.prog lG #[(pv a0)] h fun v h'=>∃ r,v = ct r∧K r h':=aw [(pv a0)] Tryz.func92 c c c fun _=>M<|O c<|aj<|M<|J c<|p (ch Tryz.underlying146 c)<|ac<|av c H (fun k1 H2=>M<|O c<|ag<|Y ⟨(⟨none,0,0,none⟩:Sl),c,H2⟩) fun k1 H2=>am<|M<|O c<|aj<|M<|J c<|bC H2 fun q9 e3 H4=>p (aH<|aL c<|ao e3)<|p (ad nF c)<|aa<|aT H4 sc_40 c (fun _=>c) c fun x11 H5=>p (dv c Tryz.underlying40 c)<|J c<|ac<|ax<|bB (step:=oq K x11) (fun s6=>[(3,(sv s6.1)),(11,(sv x11)),(12,(.int .i64 (x11.len:Int))),(13,(.int .i64 s6.2))]) (fun s6=>[]) H5 (.cons c<|.cons c<|.cons c<|.cons c<|.nil _) .slnil fun Rec7 s6 _ H8=>M<|p (cm c c)<|ac<|aj<|av c H8 (fun k9 H10=>am<|aj<|ax<|M<|J c<|cg H10 fun q16 e11 h12 H13=>p (bm gV (aL c<|aY e11) c h12)<|aa<|aT H13 aW c (fun _=>c) c fun x17 H14=>p (aq c)<|O c<|M<|J c<|p (bK c c)<|ac<|av c H14 (fun k15 H16=>ap<|J c<|J c<|aa<|aR H16 (bp (vs:=[(.int .i64 s6.2)]) c) c fun v22 _ H17=>aa<|aR H17 (dA c c) c fun v23 _ H18=>O c<|ap<|p (bt c c)<|J c<|ac<|cF (v23,(IntKind.i64.wrap (s6.2 + 1))) H18 (.cons c<|.cons c<|.cons c<|.cons c<|.nil _) .slnil) fun k15 H16=>am<|ap<|p (bt c c)<|J c<|ac<|cF (s6.1,(IntKind.i64.wrap (s6.2 + 1))) H16 (.cons c<|.cons c<|.cons c<|.cons c<|.nil _) .slnil) fun k9 H10=>bh<|M<|J c<|O c<|ag<|Y ⟨s6.1,c,H10⟩
def ou (K:Int→Hp→Prop) (r7:Sl) (Rec3:(Int × Int)→Hp→Prop) (s2:Int × Int):Hp→Prop:=br (decide (s2.2 < (r7.len:Int))) ( ix r7 s2.2 fun q11=>ld (q11.1,q11.2 + Int.toNat s2.2 * 1) (cI .i64) fun x12=>gd (0 ≤ x12)<|Rec3 ((ior .u64 s2.1 (IntKind.u64.wrap (1 * 2 ^ (min (Int.toNat x12) (IntKind.bits .u64))))),(IntKind.i64.wrap (s2.2 + 1)))) ( K s2.1)
def tH (a0:Ptr) (K:Int→Hp→Prop):Hp→Prop:=cl Tryz.prog lG [(pv a0)] ct fun r7=>Lp (ou K r7) (0,0)
theorem sim_pool_Pool_Bits (a0:Ptr) {K:Int→Hp→Prop} {h:Hp} (H:tH a0 K h):Ct Tryz.prog pJ #[(pv a0)] h fun v h'=>∃ r,v = gC r∧K r h':=aw [(pv a0)] Tryz.func210 c c c fun _=>M<|O c<|M<|O c<|aj<|M<|J c<|aa<|D H en_92 fun r7 _ H1=>p (dv c Tryz.underlying40 c)<|J c<|ac<|ax<|bB (step:=ou K r7) (fun s2=>[(3,(.int .u64 s2.1)),(7,(sv r7)),(8,(.int .i64 (r7.len:Int))),(9,(.int .i64 s2.2))]) (fun s2=>[]) H1 (.cons c<|.cons c<|.cons c<|.cons c<|.nil _) .slnil fun Rec3 s2 _ H4=>M<|p (cm c c)<|ac<|aj<|av c H4 (fun k5 H6=>am<|aj<|ax<|M<|cg H6 fun q11 e7 h8 H9=>p (bm gV (aL c<|aY e7) c h8)<|aa<|aT H9 aW c (fun _=>c) c fun x12 H10=>O c<|ap<|J c<|J c<|iV H10 fun z11 H12=>p (v_shl c c z11)<|p (v_ior c c)<|O c<|ap<|p (bt c c)<|J c<|ac<|cF ((ior .u64 s2.1 (IntKind.u64.wrap (1 * 2 ^ (min (Int.toNat x12) (IntKind.bits .u64))))),(IntKind.i64.wrap (s2.2 + 1))) H12 (.cons c<|.cons c<|.cons c<|.cons c<|.nil _) .slnil) fun k5 H6=>bh<|M<|J c<|O c<|ag<|Y ⟨s2.1,c,H6⟩
end Go.Proofs.YtmggcfijlpldpaaGreatDoor
