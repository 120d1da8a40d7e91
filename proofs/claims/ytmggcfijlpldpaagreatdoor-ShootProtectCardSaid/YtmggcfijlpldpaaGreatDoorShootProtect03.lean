/- Part of the proof of: The law ShootProtect returns true for every input, and leaves its arguments as they were. -/
import Derived.Test.YtmggcfijlpldpaaGreatDoorShootProtect02
set_option linter.all false
set_option maxRecDepth 20000
namespace Go.Proofs.YtmggcfijlpldpaaGreatDoor
open Go Mb
set_option linter.unusedVariables false
structure ae where
  e0:Int
  e1:Int
  e2:Int
  e3:Int
  e4:Int
def ae.C (x:ae):List Value:=[.int .u64 x.e0,.int .u64 x.e1,.int .u64 x.e2,.int .u64 x.e3,.int .u64 x.e4]
structure ab where
  fErr:Int
  fVal:Int
def ab.C (x:ab):List Value:=[.int .i64 x.fErr,.int .u64 x.fVal]
structure al where
  fEnv:Int
  fPage:Int
  fFrame:Int
  fRights:Int
def al.C (x:al):List Value:=[.int .i64 x.fEnv,.int .i64 x.fPage,.int .i64 x.fFrame,.int .i64 x.fRights]
structure aA where
  fCore:Int
  fEnv:Int
  fCall:ae
  fBegin:Int
  fEffect:Int
  fEnd:Int
  fAnswer:ab
  fLine:al
def aA.C (x:aA):List Value:=[.int .i64 x.fCore,.int .i64 x.fEnv,.int .u64 x.fCall.e0,.int .u64 x.fCall.e1,.int .u64 x.fCall.e2,.int .u64 x.fCall.e3,.int .u64 x.fCall.e4,.int .i64 x.fBegin,.int .i64 x.fEffect,.int .i64 x.fEnd,.int .i64 x.fAnswer.fErr,.int .u64 x.fAnswer.fVal,.int .i64 x.fLine.fEnv,.int .i64 x.fLine.fPage,.int .i64 x.fLine.fFrame,.int .i64 x.fLine.fRights]
structure lq where
  fat:Int
  fenv:Int
  fc:ae
  ftold:Bool
  fepoch:Int
def lq.C (x:lq):List Value:=[.int .i64 x.fat,.int .i64 x.fenv,.int .u64 x.fc.e0,.int .u64 x.fc.e1,.int .u64 x.fc.e2,.int .u64 x.fc.e3,.int .u64 x.fc.e4,.bool x.ftold,.int .u64 x.fepoch]
structure ak where
  fFrame:Int
  fSlot:Int
  fRights:Int
def ak.C (x:ak):List Value:=[.int .i64 x.fFrame,.int .i64 x.fSlot,.int .i64 x.fRights]
structure ax where
  fFrame:Int
  fRights:Int
  fEnv:Int
  fSlot:Int
def ax.C (x:ax):List Value:=[.int .i64 x.fFrame,.int .i64 x.fRights,.int .i64 x.fEnv,.int .i64 x.fSlot]
structure cc where
  fl:al
  fwhen:Int
def cc.C (x:cc):List Value:=[.int .i64 x.fl.fEnv,.int .i64 x.fl.fPage,.int .i64 x.fl.fFrame,.int .i64 x.fl.fRights,.int .i64 x.fwhen]
structure iJ where
  e0:cc
  e1:cc
def iJ.C (x:iJ):List Value:=[.int .i64 x.e0.fl.fEnv,.int .i64 x.e0.fl.fPage,.int .i64 x.e0.fl.fFrame,.int .i64 x.e0.fl.fRights,.int .i64 x.e0.fwhen,.int .i64 x.e1.fl.fEnv,.int .i64 x.e1.fl.fPage,.int .i64 x.e1.fl.fFrame,.int .i64 x.e1.fl.fRights,.int .i64 x.e1.fwhen]
structure aF where
  fEnv:Int
  fSlot:Int
def aF.C (x:aF):List Value:=[.int .i64 x.fEnv,.int .i64 x.fSlot]
structure aE where
  fCores:Int
  fEnvs:Int
  fFrames:Int
def aE.C (x:aE):List Value:=[.int .i64 x.fCores,.int .i64 x.fEnvs,.int .i64 x.fFrames]
structure rR where
  fl:Sl
def rR.C (x:rR):List Value:=[sv x.fl]
structure nA where
  frefs:Sl
def nA.C (x:nA):List Value:=[sv x.frefs]
structure nD where
  fl:Sl
def nD.C (x:nD):List Value:=[sv x.fl]
structure fR where
  fs:aE
  fm:Ptr
  ftables:Sl
  fpool:Ptr
  fcaps:Ptr
def fR.C (x:fR):List Value:=[.int .i64 x.fs.fCores,.int .i64 x.fs.fEnvs,.int .i64 x.fs.fFrames,pv x.fm,sv x.ftables,pv x.fpool,pv x.fcaps]
structure kj where
  fes:Sl
  fs:aE
  fk:Ptr
def kj.C (x:kj):List Value:=[sv x.fes,.int .i64 x.fs.fCores,.int .i64 x.fs.fEnvs,.int .i64 x.fs.fFrames,pv x.fk]
structure nB where
  fl:Sl
def nB.C (x:nB):List Value:=[sv x.fl]
structure jp where
  fowner:Sl
  fheard:Sl
def jp.C (x:jp):List Value:=[sv x.fowner,sv x.fheard]
structure fj where
  fp:Ptr
  fenvs:Int
  ftlbs:Sl
  fboxes:Ptr
  fepochs:Ptr
  fcalls:Sl
  fevents:Sl
  fnow:Int
def fj.C (x:fj):List Value:=[pv x.fp,.int .i64 x.fenvs,sv x.ftlbs,pv x.fboxes,pv x.fepochs,sv x.fcalls,sv x.fevents,.int .i64 x.fnow]
structure dK where
  fKind:Int
  fCore:Int
  fEnv:Int
  fCall:ae
  fSet:Int
  fWay:Int
def dK.C (x:dK):List Value:=[.int .i64 x.fKind,.int .i64 x.fCore,.int .i64 x.fEnv,.int .u64 x.fCall.e0,.int .u64 x.fCall.e1,.int .u64 x.fCall.e2,.int .u64 x.fCall.e3,.int .u64 x.fCall.e4,.int .i64 x.fSet,.int .i64 x.fWay]
structure bR where
  fCode:Int
  fEnv:Int
  fCall:ae
  fErr:Value
def bR.C (x:bR):List Value:=[.int .i64 x.fCode,.int .i64 x.fEnv,.int .u64 x.fCall.e0,.int .u64 x.fCall.e1,.int .u64 x.fCall.e2,.int .u64 x.fCall.e3,.int .u64 x.fCall.e4,x.fErr]
structure aH where
  ftyp_:Ptr
  fptr:Ptr
  fflag:Int
def aH.C (x:aH):List Value:=[pv x.ftyp_,pv x.fptr,.int .u64 x.fflag]
structure nC where
  fv:Int
  fn:Int
def nC.C (x:nC):List Value:=[.int .u64 x.fv,.int .i64 x.fn]
structure ki where
  fdrawn:Ptr
  fpassed:Ptr
def ki.C (x:ki):List Value:=[pv x.fdrawn,pv x.fpassed]
structure qz where
  fIs:Bool
  fFrame:Int
  fRights:Int
  fEnv:Int
  fSlot:Int
def qz.C (x:qz):List Value:=[.bool x.fIs,.int .i64 x.fFrame,.int .i64 x.fRights,.int .i64 x.fEnv,.int .i64 x.fSlot]
structure ia where
  fEnv:Int
  fSlot:Int
def ia.C (x:ia):List Value:=[.int .i64 x.fEnv,.int .i64 x.fSlot]
def eG (r:Sl):Value:=(sv r)
abbrev eC:Nat:=43
abbrev eI:Nat:=47
theorem fld_89_6:Fld Tryz.prog 89 6 6:=bS (m:=1) Tryz.underlying89 rfl rfl (by kernel_rfl) (by decide)
theorem en_47:aJ Tryz.prog 47:=⟨_,Tryz.func47,by decide,rfl⟩
theorem sc_43:Sc Tryz.prog 43:=⟨⟨_,Tryz.underlying43,rfl⟩,bB (by kernel_rfl)⟩
abbrev gX:Nat:=20
def ay (r:Bool):Value:=(.bool r)
theorem sI:Fld Tryz.prog 89 5 5:=bS (m:=1) Tryz.underlying89 rfl rfl (by kernel_rfl) (by decide)
theorem sc_87:Sc Tryz.prog 87:=⟨⟨_,Tryz.underlying87,rfl⟩,bB (by kernel_rfl)⟩
abbrev jh:Nat:=52
theorem slc_87:Slc Tryz.prog 87 96 1:=⟨Tryz.underlying87,bB (by kernel_rfl)⟩
theorem sc_96:Sc Tryz.prog 96:=⟨⟨_,Tryz.underlying96,rfl⟩,bB (by kernel_rfl)⟩
theorem en_52:aJ Tryz.prog 52:=⟨_,Tryz.func52,by decide,rfl⟩
abbrev fA:Nat:=26
theorem fld_89_1:Fld Tryz.prog 89 1 1:=bS (m:=1) Tryz.underlying89 rfl rfl (by kernel_rfl) (by decide)
theorem oy:Fld Tryz.prog 89 7 7:=bS (m:=1) Tryz.underlying89 rfl rfl (by kernel_rfl) (by decide)
theorem ch:Tryz.prog.follows .mixedOrders = true:=by kernel_rfl
theorem eQ:Ag Tryz.prog 34 5:=⟨⟨_,Tryz.underlying34,rfl⟩,bB (by kernel_rfl)⟩
theorem build_54_0_1_2_3 (y0:Int) (y1:Int) (y2:ae) (y3:Int):∀ w,(Instr.build 54 #[(0,(.int .i64 y0)),(1,(.int .i64 y1)),(2,(.agg (ae.C y2).toArray)),(3,(.int .i64 y3))]).run Tryz.prog w = .ok (.agg (aA.C (⟨y0,y1,y2,y3,0,0,(⟨0,0⟩:ab),(⟨0,0,0,0⟩:al)⟩:aA)).toArray) w:=fun _=>by kernel_rfl
theorem build_98_0_1_2 (y0:Int) (y1:Int) (y2:ae):∀ w,(Instr.build 98 #[(0,(.int .i64 y0)),(1,(.int .i64 y1)),(2,(.agg (ae.C y2).toArray))]).run Tryz.prog w = .ok (.agg (lq.C (⟨y0,y1,y2,false,0⟩:lq)).toArray) w:=fun _=>by kernel_rfl
theorem inf_96:∃ i,Tryz.prog.info? 96 = some i∧i.size = 1:=bB (by kernel_rfl)
abbrev cK:Nat:=98
theorem inf_43:∃ i,Tryz.prog.info? 43 = some i∧i.size = 1:=bB (by kernel_rfl)
theorem aY:Sc Tryz.prog 3:=⟨⟨_,Tryz.underlying3,rfl⟩,bB (by kernel_rfl)⟩
theorem qq:∃ i,Tryz.prog.info? 3 = some i∧i.size = 1:=bB (by kernel_rfl)
theorem en_26:aJ Tryz.prog 26:=⟨_,Tryz.func26,by decide,rfl⟩
abbrev oh:Nat:=22
def bH (r:Int × Bool):Value:=.tuple #[(.int .i64 r.1),(.bool r.2)]
theorem cW:Arr Tryz.prog 34 5 22 1:=⟨Tryz.underlying34,bB (by kernel_rfl)⟩
theorem ck:Sc Tryz.prog 22:=⟨⟨_,Tryz.underlying22,rfl⟩,bB (by kernel_rfl)⟩
abbrev n_word_Kind:Nat:=53
abbrev n_word_User:Nat:=54
def hU (r:Ptr):Value:=(pv r)
abbrev jX:Nat:=211
abbrev kS:Nat:=96
def cr (r:Sl):Value:=(sv r)
abbrev dB:Nat:=40
abbrev rx:Nat:=147
def ae.get (x:ae) (i:Int):Int:=match i.toNat with | 0=>x.e0 | 1=>x.e1 | 2=>x.e2 | 3=>x.e3 | 4=>x.e4 | _=>x.e4
theorem at_34 (x:ae) (i:Int) (h:0 ≤ i∧i < 5):(ae.C x)[0 + i.toNat * 1]? = some (.int .u64 (ae.get x i)):=by
  obtain ⟨n,rfl⟩:=Int.eq_ofNat_of_zero_le h.1
  have h2:n < 5:=by omega
  rcases n with _ | (_ | (_ | (_ | (_ | _)))) <;> first | rfl | omega
abbrev mF:Nat:=155
abbrev n_word_Rights:Nat:=186
theorem en_155:aJ Tryz.prog 155:=⟨_,Tryz.func155,by decide,rfl⟩
theorem en_186:aJ Tryz.prog 186:=⟨_,Tryz.func186,by decide,rfl⟩
abbrev n_word_fits:Nat:=148
def bf (r:Int):Value:=(.int .i64 r)
theorem ig:Slc Tryz.prog 40 3 1:=⟨Tryz.underlying40,bB (by kernel_rfl)⟩
theorem en_148:aJ Tryz.prog 148:=⟨_,Tryz.func148,by decide,rfl⟩
theorem en_147:aJ Tryz.prog 147:=⟨_,Tryz.func147,by decide,rfl⟩
theorem en_53:aJ Tryz.prog 53:=⟨_,Tryz.func53,by decide,rfl⟩
abbrev gB:Nat:=98
theorem uY:Fld Tryz.prog 149 0 0:=bS (m:=3) Tryz.underlying149 rfl rfl (by kernel_rfl) (by decide)
theorem mt:Fld Tryz.prog 27 1 1:=bS (m:=1) Tryz.underlying27 rfl rfl (by kernel_rfl) (by decide)
abbrev jI:Nat:=112
abbrev n_table_is:Nat:=150
def cq (r:ak × Bool):Value:=.tuple #[(.agg (ak.C r.1).toArray),(.bool r.2)]
theorem eA:∃ i,Tryz.prog.info? 121 = some i∧i.zero = some (.agg (ak.C (⟨0,0,0⟩:ak)).toArray):=jA (by kernel_rfl)
theorem ke  : ∀ w,(Instr.build 121 #[]).run Tryz.prog w = .ok (.agg (ak.C (⟨0,0,0⟩:ak)).toArray) w:=fun _=>by kernel_rfl
theorem dE:Ag Tryz.prog 121 3:=⟨⟨_,Tryz.underlying121,rfl⟩,bB (by kernel_rfl)⟩
theorem cT:∃ i,Tryz.prog.info? 121 = some i∧i.size = 3:=bB (by kernel_rfl)
theorem ka:Fld Tryz.prog 211 0 0:=bS (m:=24) Tryz.underlying211 rfl rfl (by kernel_rfl) (by decide)
theorem rI:Arr Tryz.prog 122 8 121 3:=⟨Tryz.underlying122,bB (by kernel_rfl)⟩
theorem dG:Fld Tryz.prog 121 2 2:=bS (m:=1) Tryz.underlying121 rfl rfl (by kernel_rfl) (by decide)
theorem en_150:aJ Tryz.prog 150:=⟨_,Tryz.func150,by decide,rfl⟩
abbrev eL:Nat:=153
theorem eP:Fld Tryz.prog 149 2 4:=bS (m:=1) Tryz.underlying149 rfl rfl (by kernel_rfl) (by decide)
theorem mv:Slc Tryz.prog 145 153 1:=⟨Tryz.underlying145,bB (by kernel_rfl)⟩
theorem en_153:aJ Tryz.prog 153:=⟨_,Tryz.func153,by decide,rfl⟩
theorem qF:Sc Tryz.prog 153:=⟨⟨_,Tryz.underlying153,rfl⟩,bB (by kernel_rfl)⟩
theorem lS:Sc Tryz.prog 145:=⟨⟨_,Tryz.underlying145,rfl⟩,bB (by kernel_rfl)⟩
theorem en_112:aJ Tryz.prog 112:=⟨_,Tryz.func112,by decide,rfl⟩
abbrev fz:Nat:=103
theorem gN:Fld Tryz.prog 205 0 0:=bS (m:=1) Tryz.underlying205 rfl rfl (by kernel_rfl) (by decide)
theorem pw:Sc Tryz.prog 203:=⟨⟨_,Tryz.underlying203,rfl⟩,bB (by kernel_rfl)⟩
abbrev gY:Nat:=145
def cH (r:ax × Bool):Value:=.tuple #[(.agg (ax.C r.1).toArray),(.bool r.2)]
theorem hY:∃ i,Tryz.prog.info? 37 = some i∧i.zero = some (.agg (ax.C (⟨0,0,0,0⟩:ax)).toArray):=jA (by kernel_rfl)
theorem build_37  : ∀ w,(Instr.build 37 #[]).run Tryz.prog w = .ok (.agg (ax.C (⟨0,0,0,0⟩:ax)).toArray) w:=fun _=>by kernel_rfl
theorem ag_37:Ag Tryz.prog 37 4:=⟨⟨_,Tryz.underlying37,rfl⟩,bB (by kernel_rfl)⟩
theorem gi:∃ i,Tryz.prog.info? 37 = some i∧i.size = 4:=bB (by kernel_rfl)
theorem nN:Slc Tryz.prog 203 202 32:=⟨Tryz.underlying203,bB (by kernel_rfl)⟩
theorem pU:Arr Tryz.prog 202 8 37 4:=⟨Tryz.underlying202,bB (by kernel_rfl)⟩
theorem gt:Fld Tryz.prog 37 1 1:=bS (m:=1) Tryz.underlying37 rfl rfl (by kernel_rfl) (by decide)
theorem en_145:aJ Tryz.prog 145:=⟨_,Tryz.func145,by decide,rfl⟩
abbrev dR:Nat:=91
theorem eZ:Fld Tryz.prog 149 4 6:=bS (m:=1) Tryz.underlying149 rfl rfl (by kernel_rfl) (by decide)
theorem en_91:aJ Tryz.prog 91:=⟨_,Tryz.func91,by decide,rfl⟩
theorem gS:Sc Tryz.prog 147:=⟨⟨_,Tryz.underlying147,rfl⟩,bB (by kernel_rfl)⟩
abbrev gU:Nat:=45
abbrev n_pte_May:Nat:=161
theorem en_161:aJ Tryz.prog 161:=⟨_,Tryz.func161,by decide,rfl⟩
abbrev n_pte_Within:Nat:=106
theorem fO:Fld Tryz.prog 98 2 2:=bS (m:=5) Tryz.underlying98 rfl rfl (by kernel_rfl) (by decide)
theorem qr:Fld Tryz.prog 89 0 0:=bS (m:=1) Tryz.underlying89 rfl rfl (by kernel_rfl) (by decide)
theorem qv:Fld Tryz.prog 37 2 2:=bS (m:=1) Tryz.underlying37 rfl rfl (by kernel_rfl) (by decide)
theorem fld_37_3:Fld Tryz.prog 37 3 3:=bS (m:=1) Tryz.underlying37 rfl rfl (by kernel_rfl) (by decide)
theorem en_45:aJ Tryz.prog 45:=⟨_,Tryz.func45,by decide,rfl⟩
theorem uN:Sc Tryz.prog 83:=⟨⟨_,Tryz.underlying83,rfl⟩,bB (by kernel_rfl)⟩
abbrev fx:Nat:=37
theorem uU:Fld Tryz.prog 98 1 1:=bS (m:=1) Tryz.underlying98 rfl rfl (by kernel_rfl) (by decide)
abbrev pz:Nat:=160
def vm (r:ak):Value:=(.agg (ak.C r).toArray)
theorem pH:Fld Tryz.prog 121 1 1:=bS (m:=1) Tryz.underlying121 rfl rfl (by kernel_rfl) (by decide)
theorem lZ:aJ Tryz.prog 106:=⟨_,Tryz.func106,by decide,rfl⟩
theorem en_160:aJ Tryz.prog 160:=⟨_,Tryz.func160,by decide,rfl⟩
abbrev lF:Nat:=104
theorem en_104:aJ Tryz.prog 104:=⟨_,Tryz.func104,by decide,rfl⟩
theorem fld_98_3:Fld Tryz.prog 98 3 7:=bS (m:=1) Tryz.underlying98 rfl rfl (by kernel_rfl) (by decide)
theorem sc_4:Sc Tryz.prog 4:=⟨⟨_,Tryz.underlying4,rfl⟩,bB (by kernel_rfl)⟩
theorem en_103:aJ Tryz.prog 103:=⟨_,Tryz.func103,by decide,rfl⟩
abbrev lE:Nat:=99
def bG (r:Int × Bool):Value:=.tuple #[(.int .u64 r.1),(.bool r.2)]
def ak.eqb (x y:ak):Bool:=((x.fFrame == y.fFrame) && ((x.fSlot == y.fSlot) && ((x.fRights == y.fRights) && true)))
theorem eqr_121 (n:Nat) (x y:ak):EqR Tryz.prog (n + 2) 121 (.agg (ak.C x).toArray) (.agg (ak.C y).toArray) (ak.eqb x y):=wG Tryz.underlying121 (by kernel_rfl) (li (by decide) (gK aY rfl) (gK aY rfl) (iV (n:=n + 0) Tryz.underlying3) (li (by decide) (gK aY rfl) (gK aY rfl) (iV (n:=n + 0) Tryz.underlying3) (li (by decide) (gK aY rfl) (gK aY rfl) (iV (n:=n + 0) Tryz.underlying3) eqf_nil)))
theorem eqg_121:Tryz.prog.eqGuardType Tryz.prog.depth 121 = false:=by kernel_rfl
theorem nz:Fld Tryz.prog 121 0 0:=bS (m:=1) Tryz.underlying121 rfl rfl (by kernel_rfl) (by decide)
abbrev n_pte_Put:Nat:=149
theorem en_149:aJ Tryz.prog 149:=⟨_,Tryz.func149,by decide,rfl⟩
abbrev dQ:Nat:=100
def R_api_Line (r:al):Value:=(.agg (al.C r).toArray)
theorem kz:∃ i,Tryz.prog.info? 52 = some i∧i.zero = some (.agg (al.C (⟨0,0,0,0⟩:al)).toArray):=jA (by kernel_rfl)
theorem build_52_0 (y0:Int):∀ w,(Instr.build 52 #[(0,(.int .i64 y0))]).run Tryz.prog w = .ok (.agg (al.C (⟨y0,0,0,0⟩:al)).toArray) w:=fun _=>by kernel_rfl
theorem gM:Ag Tryz.prog 52 4:=⟨⟨_,Tryz.underlying52,rfl⟩,bB (by kernel_rfl)⟩
theorem ft:∃ i,Tryz.prog.info? 52 = some i∧i.size = 4:=bB (by kernel_rfl)
abbrev n_tlb_empty:Nat:=146
def jz (r:Ptr):Value:=(pv r)
theorem fld_166_0:Fld Tryz.prog 166 0 0:=bS (m:=40) Tryz.underlying166 rfl rfl (by kernel_rfl) (by decide)
theorem arr_164:Arr Tryz.prog 164 4 163 10:=⟨Tryz.underlying164,bB (by kernel_rfl)⟩
theorem arr_163:Arr Tryz.prog 163 2 162 5:=⟨Tryz.underlying163,bB (by kernel_rfl)⟩
theorem pG:Fld Tryz.prog 162 0 0:=bS (m:=4) Tryz.underlying162 rfl rfl (by kernel_rfl) (by decide)
theorem jW:Fld Tryz.prog 52 0 0:=bS (m:=1) Tryz.underlying52 rfl rfl (by kernel_rfl) (by decide)
theorem ms:Fld Tryz.prog 52 1 1:=bS (m:=1) Tryz.underlying52 rfl rfl (by kernel_rfl) (by decide)
abbrev oa:Nat:=162
theorem en_146:aJ Tryz.prog 146:=⟨_,Tryz.func146,by decide,rfl⟩
theorem en_162:aJ Tryz.prog 162:=⟨_,Tryz.func162,by decide,rfl⟩
abbrev my:Nat:=107
def fo (r:al × Bool):Value:=.tuple #[(.agg (al.C r.1).toArray),(.bool r.2)]
theorem lm  : ∀ w,(Instr.build 52 #[]).run Tryz.prog w = .ok (.agg (al.C (⟨0,0,0,0⟩:al)).toArray) w:=fun _=>by kernel_rfl
abbrev od:Nat:=151
abbrev n_pte_Lets:Nat:=152
theorem fld_162_1:Fld Tryz.prog 162 1 4:=bS (m:=1) Tryz.underlying162 rfl rfl (by kernel_rfl) (by decide)
abbrev sy:Nat:=187
theorem lh:Fld Tryz.prog 52 2 2:=bS (m:=1) Tryz.underlying52 rfl rfl (by kernel_rfl) (by decide)
theorem qu:Fld Tryz.prog 52 3 3:=bS (m:=1) Tryz.underlying52 rfl rfl (by kernel_rfl) (by decide)
theorem fld_166_1:Fld Tryz.prog 166 1 40:=bS (m:=1) Tryz.underlying166 rfl rfl (by kernel_rfl) (by decide)
theorem build_162_0_1 (y0:al) (y1:Int):∀ w,(Instr.build 162 #[(0,(.agg (al.C y0).toArray)),(1,(.int .i64 y1))]).run Tryz.prog w = .ok (.agg (cc.C (⟨y0,y1⟩:cc)).toArray) w:=fun _=>by kernel_rfl
theorem inf_162:∃ i,Tryz.prog.info? 162 = some i∧i.size = 5:=bB (by kernel_rfl)
theorem en_187:aJ Tryz.prog 187:=⟨_,Tryz.func187,by decide,rfl⟩
abbrev oe:Nat:=154
theorem en_107:aJ Tryz.prog 107:=⟨_,Tryz.func107,by decide,rfl⟩
theorem vh (y0:Int) (y1:Int) (y2:Int) (y3:Int):∀ w,(Instr.build 52 #[(0,(.int .i64 y0)),(1,(.int .i64 y1)),(2,(.int .i64 y2)),(3,(.int .i64 y3))]).run Tryz.prog w = .ok (.agg (al.C (⟨y0,y1,y2,y3⟩:al)).toArray) w:=fun _=>by kernel_rfl
theorem en_154:aJ Tryz.prog 154:=⟨_,Tryz.func154,by decide,rfl⟩
theorem en_152:aJ Tryz.prog 152:=⟨_,Tryz.func152,by decide,rfl⟩
theorem en_151:aJ Tryz.prog 151:=⟨_,Tryz.func151,by decide,rfl⟩
abbrev tJ:Nat:=101
def dW (r:Int):Value:=(.int .i64 r)
theorem rQ:Fld Tryz.prog 209 0 0:=bS (m:=1) Tryz.underlying209 rfl rfl (by kernel_rfl) (by decide)
theorem kL:Sc Tryz.prog 155:=⟨⟨_,Tryz.underlying155,rfl⟩,bB (by kernel_rfl)⟩
abbrev uS:Nat:=212
def rS (r:Ptr):Value:=(pv r)
theorem lv:Slc Tryz.prog 155 158 1:=⟨Tryz.underlying155,bB (by kernel_rfl)⟩
theorem ru:Slc Tryz.prog 158 22 1:=⟨Tryz.underlying158,bB (by kernel_rfl)⟩
theorem qE:Sc Tryz.prog 158:=⟨⟨_,Tryz.underlying158,rfl⟩,bB (by kernel_rfl)⟩
theorem en_212:aJ Tryz.prog 212:=⟨_,Tryz.func212,by decide,rfl⟩
abbrev lC:Nat:=188
theorem en_188:aJ Tryz.prog 188:=⟨_,Tryz.func188,by decide,rfl⟩
abbrev gV:Nat:=156
theorem inf_22:∃ i,Tryz.prog.info? 22 = some i∧i.size = 1:=bB (by kernel_rfl)
abbrev ff:Nat:=157
theorem en_157:aJ Tryz.prog 157:=⟨_,Tryz.func157,by decide,rfl⟩
theorem en_156:aJ Tryz.prog 156:=⟨_,Tryz.func156,by decide,rfl⟩
abbrev pO:Nat:=158
abbrev pP:Nat:=159
def aX (r:ab × Bool):Value:=.tuple #[(.agg (ab.C r.1).toArray),(.bool r.2)]
theorem cE:∃ i,Tryz.prog.info? 30 = some i∧i.zero = some (.agg (ab.C (⟨0,0⟩:ab)).toArray):=jA (by kernel_rfl)
theorem sS  : ∀ w,(Instr.build 30 #[]).run Tryz.prog w = .ok (.agg (ab.C (⟨0,0⟩:ab)).toArray) w:=fun _=>by kernel_rfl
theorem co:Ag Tryz.prog 30 2:=⟨⟨_,Tryz.underlying30,rfl⟩,bB (by kernel_rfl)⟩
theorem bF:∃ i,Tryz.prog.info? 30 = some i∧i.size = 2:=bB (by kernel_rfl)
theorem iQ (y1:Int):∀ w,(Instr.build 30 #[(1,(.int .u64 y1))]).run Tryz.prog w = .ok (.agg (ab.C (⟨0,y1⟩:ab)).toArray) w:=fun _=>by kernel_rfl
theorem lL:Fld Tryz.prog 149 1 3:=bS (m:=1) Tryz.underlying149 rfl rfl (by kernel_rfl) (by decide)
theorem wa:Sc Tryz.prog 144:=⟨⟨_,Tryz.underlying144,rfl⟩,bB (by kernel_rfl)⟩
theorem en_158:aJ Tryz.prog 158:=⟨_,Tryz.func158,by decide,rfl⟩
theorem en_159:aJ Tryz.prog 159:=⟨_,Tryz.func159,by decide,rfl⟩
theorem en_54:aJ Tryz.prog 54:=⟨_,Tryz.func54,by decide,rfl⟩
abbrev eM:Nat:=102
def eu (r:ab × al):Value:=.tuple #[(.agg (ab.C r.1).toArray),(.agg (al.C r.2).toArray)]
theorem iR (y0:Int):∀ w,(Instr.build 30 #[(0,(.int .i64 y0))]).run Tryz.prog w = .ok (.agg (ab.C (⟨y0,0⟩:ab)).toArray) w:=fun _=>by kernel_rfl
theorem jU:Fld Tryz.prog 89 2 2:=bS (m:=1) Tryz.underlying89 rfl rfl (by kernel_rfl) (by decide)
theorem slc_84:Slc Tryz.prog 84 94 1:=⟨Tryz.underlying84,bB (by kernel_rfl)⟩
theorem uo:aJ Tryz.prog 102:=⟨_,Tryz.func102,by decide,rfl⟩
theorem en_101:aJ Tryz.prog 101:=⟨_,Tryz.func101,by decide,rfl⟩
theorem sc_94:Sc Tryz.prog 94:=⟨⟨_,Tryz.underlying94,rfl⟩,bB (by kernel_rfl)⟩
theorem sc_84:Sc Tryz.prog 84:=⟨⟨_,Tryz.underlying84,rfl⟩,bB (by kernel_rfl)⟩
theorem en_100:aJ Tryz.prog 100:=⟨_,Tryz.func100,by decide,rfl⟩
theorem en_99:aJ Tryz.prog 99:=⟨_,Tryz.func99,by decide,rfl⟩
theorem en_96:aJ Tryz.prog 96:=⟨_,Tryz.func96,by decide,rfl⟩
theorem en_98:aJ Tryz.prog 98:=⟨_,Tryz.func98,by decide,rfl⟩
abbrev mK:Nat:=55
def R_ (_:Unit):Value:=.tuple #[]
theorem fld_98_0:Fld Tryz.prog 98 0 0:=bS (m:=1) Tryz.underlying98 rfl rfl (by kernel_rfl) (by decide)
theorem rY:Slc Tryz.prog 43 54 16:=⟨Tryz.underlying43,bB (by kernel_rfl)⟩
theorem iI:Fld Tryz.prog 54 4 8:=bS (m:=1) Tryz.underlying54 rfl rfl (by kernel_rfl) (by decide)
theorem qt:Fld Tryz.prog 54 5 9:=bS (m:=1) Tryz.underlying54 rfl rfl (by kernel_rfl) (by decide)
theorem jV:Fld Tryz.prog 54 6 10:=bS (m:=2) Tryz.underlying54 rfl rfl (by kernel_rfl) (by decide)
theorem fP:Fld Tryz.prog 54 7 12:=bS (m:=4) Tryz.underlying54 rfl rfl (by kernel_rfl) (by decide)
abbrev lG:Nat:=56
abbrev og:Nat:=57
def qA (r:Sl):Value:=(sv r)
abbrev t_2_tlb_line:Nat:=163
def R_tlb_line (r:cc):Value:=(.agg (cc.C r).toArray)
theorem zero_162:∃ i,Tryz.prog.info? 162 = some i∧i.zero = some (.agg (cc.C (⟨(⟨0,0,0,0⟩:al),0⟩:cc)).toArray):=jA (by kernel_rfl)
abbrev qc:Nat:=173
theorem ag_163:Ag Tryz.prog 163 10:=⟨⟨_,Tryz.underlying163,rfl⟩,bB (by kernel_rfl)⟩
abbrev qG:Nat:=105
theorem slc_173:Slc Tryz.prog 173 52 4:=⟨Tryz.underlying173,bB (by kernel_rfl)⟩
theorem en_105:aJ Tryz.prog 105:=⟨_,Tryz.func105,by decide,rfl⟩
abbrev kE:Nat:=58
theorem fld_160_1:Fld Tryz.prog 160 1 1:=bS (m:=1) Tryz.underlying160 rfl rfl (by kernel_rfl) (by decide)
abbrev kF:Nat:=108
def gw (r:Int):Value:=(.int .u64 r)
theorem fld_160_0:Fld Tryz.prog 160 0 0:=bS (m:=1) Tryz.underlying160 rfl rfl (by kernel_rfl) (by decide)
theorem sc_40:Sc Tryz.prog 40:=⟨⟨_,Tryz.underlying40,rfl⟩,bB (by kernel_rfl)⟩
abbrev fB:Nat:=109
theorem en_109:aJ Tryz.prog 109:=⟨_,Tryz.func109,by decide,rfl⟩
theorem inf_40:∃ i,Tryz.prog.info? 40 = some i∧i.size = 1:=bB (by kernel_rfl)
theorem en_108:aJ Tryz.prog 108:=⟨_,Tryz.func108,by decide,rfl⟩
abbrev iC:Nat:=59
theorem lK:Fld Tryz.prog 157 0 0:=bS (m:=1) Tryz.underlying157 rfl rfl (by kernel_rfl) (by decide)
abbrev la:Nat:=163
abbrev sE:Nat:=213
theorem en_213:aJ Tryz.prog 213:=⟨_,Tryz.func213,by decide,rfl⟩
abbrev tO:Nat:=189
abbrev oW:Nat:=190
theorem en_189:aJ Tryz.prog 189:=⟨_,Tryz.func189,by decide,rfl⟩
theorem en_190:aJ Tryz.prog 190:=⟨_,Tryz.func190,by decide,rfl⟩
abbrev eB:Nat:=164
abbrev bb:Nat:=158
def bW (r:Sl):Value:=(sv r)
abbrev ry:Nat:=192
abbrev kA:Nat:=3
abbrev uh:Nat:=191
theorem en_192:aJ Tryz.prog 192:=⟨_,Tryz.func192,by decide,rfl⟩
abbrev du:Nat:=165
theorem inf_158:∃ i,Tryz.prog.info? 158 = some i∧i.size = 1:=bB (by kernel_rfl)
theorem en_165:aJ Tryz.prog 165:=⟨_,Tryz.func165,by decide,rfl⟩
theorem en_164:aJ Tryz.prog 164:=⟨_,Tryz.func164,by decide,rfl⟩
theorem en_163:aJ Tryz.prog 163:=⟨_,Tryz.func163,by decide,rfl⟩
abbrev py:Nat:=110
theorem en_110:aJ Tryz.prog 110:=⟨_,Tryz.func110,by decide,rfl⟩
abbrev mA:Nat:=60
abbrev iB:Nat:=111
theorem en_111:aJ Tryz.prog 111:=⟨_,Tryz.func111,by decide,rfl⟩
abbrev iU:Nat:=61
abbrev n_plain_fails:Nat:=113
theorem build_37_0_1_2 (y0:Int) (y1:Int) (y2:Int):∀ w,(Instr.build 37 #[(0,(.int .i64 y0)),(1,(.int .i64 y1)),(2,(.int .i64 y2))]).run Tryz.prog w = .ok (.agg (ax.C (⟨y0,y1,y2,0⟩:ax)).toArray) w:=fun _=>by kernel_rfl
abbrev jj:Nat:=134
abbrev jG:Nat:=193
theorem nv:Fld Tryz.prog 207 0 0:=bS (m:=1) Tryz.underlying207 rfl rfl (by kernel_rfl) (by decide)
theorem en_193:aJ Tryz.prog 193:=⟨_,Tryz.func193,by decide,rfl⟩
abbrev jf:Nat:=166
abbrev t_none:Nat:=0
abbrev sB:Nat:=167
theorem ny:Fld Tryz.prog 149 3 5:=bS (m:=1) Tryz.underlying149 rfl rfl (by kernel_rfl) (by decide)
theorem en_134:aJ Tryz.prog 134:=⟨_,Tryz.func134,by decide,rfl⟩
theorem en_167:aJ Tryz.prog 167:=⟨_,Tryz.func167,by decide,rfl⟩
theorem en_166:aJ Tryz.prog 166:=⟨_,Tryz.func166,by decide,rfl⟩
theorem sc_146:Sc Tryz.prog 146:=⟨⟨_,Tryz.underlying146,rfl⟩,bB (by kernel_rfl)⟩
abbrev kV:Nat:=114
theorem sL:Fld Tryz.prog 37 0 0:=bS (m:=1) Tryz.underlying37 rfl rfl (by kernel_rfl) (by decide)
theorem build_37_0_1_2_3 (y0:Int) (y1:Int) (y2:Int) (y3:Int):∀ w,(Instr.build 37 #[(0,(.int .i64 y0)),(1,(.int .i64 y1)),(2,(.int .i64 y2)),(3,(.int .i64 y3))]).run Tryz.prog w = .ok (.agg (ax.C (⟨y0,y1,y2,y3⟩:ax)).toArray) w:=fun _=>by kernel_rfl
abbrev gZ:Nat:=135
abbrev jg:Nat:=194
theorem en_194:aJ Tryz.prog 194:=⟨_,Tryz.func194,by decide,rfl⟩
abbrev lA:Nat:=168
def cM (r:Sl):Value:=(sv r)
abbrev kJ:Nat:=202
def R_api_Cap (r:ax):Value:=(.agg (ax.C r).toArray)
theorem ur (y0:Int) (y1:Int):∀ w,(Instr.build 231 #[(0,(.int .i64 y0)),(1,(.int .i64 y1))]).run Tryz.prog w = .ok (.agg (aF.C (⟨y0,y1⟩:aF)).toArray) w:=fun _=>by kernel_rfl
theorem zero_231:∃ i,Tryz.prog.info? 231 = some i∧i.zero = some (.agg (aF.C (⟨0,0⟩:aF)).toArray):=jA (by kernel_rfl)
theorem ag_231:Ag Tryz.prog 231 2:=⟨⟨_,Tryz.underlying231,rfl⟩,bB (by kernel_rfl)⟩
abbrev gI:Nat:=197
theorem inf_231:∃ i,Tryz.prog.info? 231 = some i∧i.size = 2:=bB (by kernel_rfl)
abbrev jT:Nat:=179
abbrev lI:Nat:=195
theorem slc_197:Slc Tryz.prog 197 231 2:=⟨Tryz.underlying197,bB (by kernel_rfl)⟩
theorem fld_231_0:Fld Tryz.prog 231 0 0:=bS (m:=1) Tryz.underlying231 rfl rfl (by kernel_rfl) (by decide)
theorem fld_231_1:Fld Tryz.prog 231 1 1:=bS (m:=1) Tryz.underlying231 rfl rfl (by kernel_rfl) (by decide)
abbrev gn:Nat:=196
abbrev kG:Nat:=181
def aF.eqb (x y:aF):Bool:=((x.fEnv == y.fEnv) && ((x.fSlot == y.fSlot) && true))
theorem eqr_231 (n:Nat) (x y:aF):EqR Tryz.prog (n + 2) 231 (.agg (aF.C x).toArray) (.agg (aF.C y).toArray) (aF.eqb x y):=wG Tryz.underlying231 (by kernel_rfl) (li (by decide) (gK aY rfl) (gK aY rfl) (iV (n:=n + 0) Tryz.underlying3) (li (by decide) (gK aY rfl) (gK aY rfl) (iV (n:=n + 0) Tryz.underlying3) eqf_nil))
theorem eqg_231:Tryz.prog.eqGuardType Tryz.prog.depth 231 = false:=by kernel_rfl
theorem en_181:aJ Tryz.prog 181:=⟨_,Tryz.func181,by decide,rfl⟩
abbrev gq:Nat:=197
def dn (r:Sl × Int):Value:=.tuple #[(sv r.1),(.int .i64 r.2)]
theorem en_196:aJ Tryz.prog 196:=⟨_,Tryz.func196,by decide,rfl⟩
theorem en_179:aJ Tryz.prog 179:=⟨_,Tryz.func179,by decide,rfl⟩
abbrev rm:Nat:=231
theorem en_195:aJ Tryz.prog 195:=⟨_,Tryz.func195,by decide,rfl⟩
abbrev rn:Nat:=147
abbrev lJ:Nat:=169
theorem en_169:aJ Tryz.prog 169:=⟨_,Tryz.func169,by decide,rfl⟩
theorem en_168:aJ Tryz.prog 168:=⟨_,Tryz.func168,by decide,rfl⟩
theorem en_135:aJ Tryz.prog 135:=⟨_,Tryz.func135,by decide,rfl⟩
abbrev hZ:Nat:=115
def iX (r:ak × Int):Value:=.tuple #[(.agg (ak.C r.1).toArray),(.int .i64 r.2)]
abbrev iA:Nat:=118
abbrev lf:Nat:=180
abbrev kH:Nat:=139
theorem en_139:aJ Tryz.prog 139:=⟨_,Tryz.func139,by decide,rfl⟩
abbrev mM:Nat:=170
abbrev td:Nat:=122
abbrev lz:Nat:=171
abbrev mz:Nat:=172
def gG (r:ab):Value:=(.agg (ab.C r).toArray)
theorem en_118:aJ Tryz.prog 118:=⟨_,Tryz.func118,by decide,rfl⟩
theorem en_172:aJ Tryz.prog 172:=⟨_,Tryz.func172,by decide,rfl⟩
theorem en_171:aJ Tryz.prog 171:=⟨_,Tryz.func171,by decide,rfl⟩
theorem en_170:aJ Tryz.prog 170:=⟨_,Tryz.func170,by decide,rfl⟩
abbrev km:Nat:=116
theorem mC (y0:Int) (y1:Int) (y2:Int):∀ w,(Instr.build 121 #[(0,(.int .i64 y0)),(1,(.int .i64 y1)),(2,(.int .i64 y2))]).run Tryz.prog w = .ok (.agg (ak.C (⟨y0,y1,y2⟩:ak)).toArray) w:=fun _=>by kernel_rfl
abbrev lV:Nat:=117
abbrev kl:Nat:=173
theorem en_173:aJ Tryz.prog 173:=⟨_,Tryz.func173,by decide,rfl⟩
abbrev jH:Nat:=119
abbrev n_pred_Holds:Nat:=140
theorem qO:aJ Tryz.prog 113:=⟨_,Tryz.func113,by decide,rfl⟩
theorem en_140:aJ Tryz.prog 140:=⟨_,Tryz.func140,by decide,rfl⟩
abbrev kU:Nat:=120
abbrev lT:Nat:=121
theorem en_116:aJ Tryz.prog 116:=⟨_,Tryz.func116,by decide,rfl⟩
theorem en_114:aJ Tryz.prog 114:=⟨_,Tryz.func114,by decide,rfl⟩
theorem en_115:aJ Tryz.prog 115:=⟨_,Tryz.func115,by decide,rfl⟩
theorem en_117:aJ Tryz.prog 117:=⟨_,Tryz.func117,by decide,rfl⟩
theorem en_119:aJ Tryz.prog 119:=⟨_,Tryz.func119,by decide,rfl⟩
theorem en_120:aJ Tryz.prog 120:=⟨_,Tryz.func120,by decide,rfl⟩
theorem en_121:aJ Tryz.prog 121:=⟨_,Tryz.func121,by decide,rfl⟩
abbrev dq:Nat:=62
theorem en_56:aJ Tryz.prog 56:=⟨_,Tryz.func56,by decide,rfl⟩
theorem en_55:aJ Tryz.prog 55:=⟨_,Tryz.func55,by decide,rfl⟩
theorem fld_89_4:Fld Tryz.prog 89 4 4:=bS (m:=1) Tryz.underlying89 rfl rfl (by kernel_rfl) (by decide)
theorem fld_98_4:Fld Tryz.prog 98 4 8:=bS (m:=1) Tryz.underlying98 rfl rfl (by kernel_rfl) (by decide)
theorem fld_89_3:Fld Tryz.prog 89 3 3:=bS (m:=1) Tryz.underlying89 rfl rfl (by kernel_rfl) (by decide)
theorem en_60:aJ Tryz.prog 60:=⟨_,Tryz.func60,by decide,rfl⟩
theorem sc_85:Sc Tryz.prog 85:=⟨⟨_,Tryz.underlying85,rfl⟩,bB (by kernel_rfl)⟩
theorem en_59:aJ Tryz.prog 59:=⟨_,Tryz.func59,by decide,rfl⟩
theorem sc_86:Sc Tryz.prog 86:=⟨⟨_,Tryz.underlying86,rfl⟩,bB (by kernel_rfl)⟩
theorem en_58:aJ Tryz.prog 58:=⟨_,Tryz.func58,by decide,rfl⟩
theorem inf_4:∃ i,Tryz.prog.info? 4 = some i∧i.size = 1:=bB (by kernel_rfl)
theorem en_62:aJ Tryz.prog 62:=⟨_,Tryz.func62,by decide,rfl⟩
theorem en_61:aJ Tryz.prog 61:=⟨_,Tryz.func61,by decide,rfl⟩
theorem en_57:aJ Tryz.prog 57:=⟨_,Tryz.func57,by decide,rfl⟩
abbrev pA:Nat:=23
abbrev kD:Nat:=122
theorem en_122:aJ Tryz.prog 122:=⟨_,Tryz.func122,by decide,rfl⟩
abbrev pC:Nat:=63
abbrev lD:Nat:=123
abbrev jK:Nat:=124
theorem en_124:aJ Tryz.prog 124:=⟨_,Tryz.func124,by decide,rfl⟩
theorem en_123:aJ Tryz.prog 123:=⟨_,Tryz.func123,by decide,rfl⟩
abbrev pB:Nat:=64
theorem en_23:aJ Tryz.prog 23:=⟨_,Tryz.func23,by decide,rfl⟩
theorem en_64:aJ Tryz.prog 64:=⟨_,Tryz.func64,by decide,rfl⟩
theorem en_63:aJ Tryz.prog 63:=⟨_,Tryz.func63,by decide,rfl⟩
abbrev gC:Nat:=24
theorem sK:Fld Tryz.prog 54 0 0:=bS (m:=1) Tryz.underlying54 rfl rfl (by kernel_rfl) (by decide)
theorem en_20:aJ Tryz.prog 20:=⟨_,Tryz.func20,by decide,rfl⟩
theorem en_24:aJ Tryz.prog 24:=⟨_,Tryz.func24,by decide,rfl⟩
theorem en_22:aJ Tryz.prog 22:=⟨_,Tryz.func22,by decide,rfl⟩
abbrev ci:Nat:=16
theorem oA:Fld Tryz.prog 27 0 0:=bS (m:=1) Tryz.underlying27 rfl rfl (by kernel_rfl) (by decide)
theorem oz:Fld Tryz.prog 54 1 1:=bS (m:=1) Tryz.underlying54 rfl rfl (by kernel_rfl) (by decide)
theorem sJ:Fld Tryz.prog 54 3 7:=bS (m:=1) Tryz.underlying54 rfl rfl (by kernel_rfl) (by decide)
abbrev n_hist_one:Nat:=69
abbrev iZ:Nat:=50
def R_map_int_bool (r:(Option Nat)):Value:=(.map r)
abbrev gH:Nat:=113
def R_map_int_int (r:(Option Nat)):Value:=(.map r)
theorem zero_54:∃ i,Tryz.prog.info? 54 = some i∧i.zero = some (.agg (aA.C (⟨0,0,(⟨0,0,0,0,0⟩:ae),0,0,0,(⟨0,0⟩:ab),(⟨0,0,0,0⟩:al)⟩:aA)).toArray):=jA (by kernel_rfl)
theorem ag_54:Ag Tryz.prog 54 16:=⟨⟨_,Tryz.underlying54,rfl⟩,bB (by kernel_rfl)⟩
theorem qy:Ag Tryz.prog 27 3:=⟨⟨_,Tryz.underlying27,rfl⟩,bB (by kernel_rfl)⟩
theorem en_69:aJ Tryz.prog 69:=⟨_,Tryz.func69,by decide,rfl⟩
theorem inf_54:∃ i,Tryz.prog.info? 54 = some i∧i.size = 16:=bB (by kernel_rfl)
abbrev wk:Nat:=33
abbrev pQ:Nat:=67
abbrev mB:Nat:=86
abbrev bQ:Nat:=184
abbrev jR:Nat:=185
theorem en_185:aJ Tryz.prog 185:=⟨_,Tryz.func185,by decide,rfl⟩
theorem en_184:aJ Tryz.prog 184:=⟨_,Tryz.func184,by decide,rfl⟩
abbrev kT:Nat:=143
theorem en_143:aJ Tryz.prog 143:=⟨_,Tryz.func143,by decide,rfl⟩
abbrev fq:Nat:=87
abbrev n_cmp_isNaN_int:Nat:=144
theorem en_144:aJ Tryz.prog 144:=⟨_,Tryz.func144,by decide,rfl⟩
abbrev tP:Nat:=89
theorem en_89:aJ Tryz.prog 89:=⟨_,Tryz.func89,by decide,rfl⟩
abbrev qK:Nat:=88
theorem en_87:aJ Tryz.prog 87:=⟨_,Tryz.func87,by decide,rfl⟩
theorem en_67:aJ Tryz.prog 67:=⟨_,Tryz.func67,by decide,rfl⟩
abbrev oq:Nat:=43
def sX (r:Ptr):Value:=(pv r)
theorem build_209  : ∀ w,(Instr.build 209 #[]).run Tryz.prog w = .ok (.agg (rR.C (⟨(⟨none,0,0,none⟩:Sl)⟩:rR)).toArray) w:=fun _=>by kernel_rfl
abbrev pn:Nat:=155
def R_SSuint64 (r:Sl):Value:=(sv r)
theorem inf_155:∃ i,Tryz.prog.info? 155 = some i∧i.size = 1:=bB (by kernel_rfl)
abbrev lr:Nat:=209
abbrev uR:Nat:=93
def rJ (r:Ptr):Value:=(pv r)
theorem build_207_0 (y0:Sl):∀ w,(Instr.build 207 #[(0,(sv y0))]).run Tryz.prog w = .ok (.agg (nA.C (⟨y0⟩:nA)).toArray) w:=fun _=>by kernel_rfl
abbrev pZ:Nat:=207
abbrev wi:Nat:=94
def rK (r:Ptr):Value:=(pv r)
abbrev t_S_8_api_Cap:Nat:=203
def R_S_8_api_Cap (r:Sl):Value:=(sv r)
theorem build_205_0 (y0:Sl):∀ w,(Instr.build 205 #[(0,(sv y0))]).run Tryz.prog w = .ok (.agg (nD.C (⟨y0⟩:nD)).toArray) w:=fun _=>by kernel_rfl
abbrev mW:Nat:=205
abbrev wl:Nat:=95
def dF (r:Ptr):Value:=(pv r)
theorem uV:Fld Tryz.prog 27 2 2:=bS (m:=1) Tryz.underlying27 rfl rfl (by kernel_rfl) (by decide)
theorem build_149_0_1_3_4 (y0:aE) (y1:Ptr) (y3:Ptr) (y4:Ptr):∀ w,(Instr.build 149 #[(0,(.agg (aE.C y0).toArray)),(1,(pv y1)),(3,(pv y3)),(4,(pv y4))]).run Tryz.prog w = .ok (.agg (fR.C (⟨y0,y1,(⟨none,0,0,none⟩:Sl),y3,y4⟩:fR)).toArray) w:=fun _=>by kernel_rfl
abbrev eD:Nat:=145
def mD (r:Sl):Value:=(sv r)
theorem inf_145:∃ i,Tryz.prog.info? 145 = some i∧i.size = 1:=bB (by kernel_rfl)
abbrev cn:Nat:=149
theorem en_95:aJ Tryz.prog 95:=⟨_,Tryz.func95,by decide,rfl⟩
theorem en_94:aJ Tryz.prog 94:=⟨_,Tryz.func94,by decide,rfl⟩
theorem en_93:aJ Tryz.prog 93:=⟨_,Tryz.func93,by decide,rfl⟩
abbrev nh:Nat:=48
theorem mq:Fld Tryz.prog 54 2 2:=bS (m:=5) Tryz.underlying54 rfl rfl (by kernel_rfl) (by decide)
abbrev n_judge_user:Nat:=131
abbrev gf:Nat:=216
theorem en_216:aJ Tryz.prog 216:=⟨_,Tryz.func216,by decide,rfl⟩
abbrev qI:Nat:=199
abbrev lU:Nat:=200
theorem en_199:aJ Tryz.prog 199:=⟨_,Tryz.func199,by decide,rfl⟩
theorem en_200:aJ Tryz.prog 200:=⟨_,Tryz.func200,by decide,rfl⟩
theorem en_48:aJ Tryz.prog 48:=⟨_,Tryz.func48,by decide,rfl⟩
abbrev gm:Nat:=175
abbrev sD:Nat:=215
abbrev n_hist_Over:Nat:=198
def pM (r:Sl):Value:=(sv r)
theorem uX:Fld Tryz.prog 192 2 4:=bS (m:=1) Tryz.underlying192 rfl rfl (by kernel_rfl) (by decide)
abbrev pj:Nat:=234
theorem fld_192_0:Fld Tryz.prog 192 0 0:=bS (m:=1) Tryz.underlying192 rfl rfl (by kernel_rfl) (by decide)
theorem en_175:aJ Tryz.prog 175:=⟨_,Tryz.func175,by decide,rfl⟩
theorem en_198:aJ Tryz.prog 198:=⟨_,Tryz.func198,by decide,rfl⟩
abbrev lb:Nat:=174
theorem fld_192_1:Fld Tryz.prog 192 1 1:=bS (m:=3) Tryz.underlying192 rfl rfl (by kernel_rfl) (by decide)
def ab.eqb (x y:ab):Bool:=((x.fErr == y.fErr) && ((x.fVal == y.fVal) && true))
theorem kK:Sc Tryz.prog 28:=⟨⟨_,Tryz.underlying28,rfl⟩,bB (by kernel_rfl)⟩
theorem eqr_30 (n:Nat) (x y:ab):EqR Tryz.prog (n + 2) 30 (.agg (ab.C x).toArray) (.agg (ab.C y).toArray) (ab.eqb x y):=wG Tryz.underlying30 (by kernel_rfl) (li (by decide) (gK kK rfl) (gK kK rfl) (iV (n:=n + 0) Tryz.underlying28) (li (by decide) (gK ck rfl) (gK ck rfl) (iV (n:=n + 0) Tryz.underlying22) eqf_nil))
theorem eqg_30:Tryz.prog.eqGuardType Tryz.prog.depth 30 = false:=by kernel_rfl
def al.eqb (x y:al):Bool:=((x.fEnv == y.fEnv) && ((x.fPage == y.fPage) && ((x.fFrame == y.fFrame) && ((x.fRights == y.fRights) && true))))
theorem eqr_52 (n:Nat) (x y:al):EqR Tryz.prog (n + 2) 52 (.agg (al.C x).toArray) (.agg (al.C y).toArray) (al.eqb x y):=wG Tryz.underlying52 (by kernel_rfl) (li (by decide) (gK aY rfl) (gK aY rfl) (iV (n:=n + 0) Tryz.underlying3) (li (by decide) (gK aY rfl) (gK aY rfl) (iV (n:=n + 0) Tryz.underlying3) (li (by decide) (gK aY rfl) (gK aY rfl) (iV (n:=n + 0) Tryz.underlying3) (li (by decide) (gK aY rfl) (gK aY rfl) (iV (n:=n + 0) Tryz.underlying3) eqf_nil))))
theorem eqg_52:Tryz.prog.eqGuardType Tryz.prog.depth 52 = false:=by kernel_rfl
theorem slc_234:Slc Tryz.prog 234 121 3:=⟨Tryz.underlying234,bB (by kernel_rfl)⟩
theorem gu:Fld Tryz.prog 30 0 0:=bS (m:=1) Tryz.underlying30 rfl rfl (by kernel_rfl) (by decide)
theorem fld_30_1:Fld Tryz.prog 30 1 1:=bS (m:=1) Tryz.underlying30 rfl rfl (by kernel_rfl) (by decide)
theorem en_174:aJ Tryz.prog 174:=⟨_,Tryz.func174,by decide,rfl⟩
abbrev lc:Nat:=132
abbrev mL:Nat:=133
theorem build_192_0_1_2 (y0:Sl) (y1:aE) (y2:Ptr):∀ w,(Instr.build 192 #[(0,(sv y0)),(1,(.agg (aE.C y1).toArray)),(2,(pv y2))]).run Tryz.prog w = .ok (.agg (kj.C (⟨y0,y1,y2⟩:kj)).toArray) w:=fun _=>by kernel_rfl
theorem en_133:aJ Tryz.prog 133:=⟨_,Tryz.func133,by decide,rfl⟩
theorem en_132:aJ Tryz.prog 132:=⟨_,Tryz.func132,by decide,rfl⟩
theorem en_131:aJ Tryz.prog 131:=⟨_,Tryz.func131,by decide,rfl⟩
theorem en_43:aJ Tryz.prog 43:=⟨_,Tryz.func43,by decide,rfl⟩
abbrev db:Nat:=192
theorem en_33:aJ Tryz.prog 33:=⟨_,Tryz.func33,by decide,rfl⟩
abbrev tL:Nat:=84
theorem en_84:aJ Tryz.prog 84:=⟨_,Tryz.func84,by decide,rfl⟩
abbrev ol:Nat:=39
abbrev oo:Nat:=40
theorem en_40:aJ Tryz.prog 40:=⟨_,Tryz.func40,by decide,rfl⟩
theorem en_39:aJ Tryz.prog 39:=⟨_,Tryz.func39,by decide,rfl⟩
abbrev ui:Nat:=19
def oC (r:Ptr):Value:=(pv r)
theorem build_157_0 (y0:Sl):∀ w,(Instr.build 157 #[(0,(sv y0))]).run Tryz.prog w = .ok (.agg (nB.C (⟨y0⟩:nB)).toArray) w:=fun _=>by kernel_rfl
abbrev kI:Nat:=157
abbrev sC:Nat:=49
def im (r:Ptr):Value:=(pv r)
theorem build_160_1 (y1:Sl):∀ w,(Instr.build 160 #[(1,(sv y1))]).run Tryz.prog w = .ok (.agg (jp.C (⟨(⟨none,0,0,none⟩:Sl),y1⟩:jp)).toArray) w:=fun _=>by kernel_rfl
abbrev gQ:Nat:=160
abbrev nk:Nat:=50
abbrev qH:Nat:=97
def gj (r:Ptr):Value:=(pv r)
abbrev ph:Nat:=166
theorem en_97:aJ Tryz.prog 97:=⟨_,Tryz.func97,by decide,rfl⟩
abbrev ij:Nat:=51
def jO (r:Ptr):Value:=(pv r)
abbrev mi:Nat:=87
def pV (r:Sl):Value:=(sv r)
theorem mS (y0:Ptr) (y1:Int) (y3:Ptr) (y4:Ptr) (y5:Sl):∀ w,(Instr.build 89 #[(0,(pv y0)),(1,(.int .i64 y1)),(3,(pv y3)),(4,(pv y4)),(5,(sv y5))]).run Tryz.prog w = .ok (.agg (fj.C (⟨y0,y1,(⟨none,0,0,none⟩:Sl),y3,y4,y5,(⟨none,0,0,none⟩:Sl),0⟩:fj)).toArray) w:=fun _=>by kernel_rfl
abbrev bI:Nat:=84
def dH (r:Sl):Value:=(sv r)
theorem inf_84:∃ i,Tryz.prog.info? 84 = some i∧i.size = 1:=bB (by kernel_rfl)
theorem en_51:aJ Tryz.prog 51:=⟨_,Tryz.func51,by decide,rfl⟩
abbrev bZ:Nat:=89
theorem en_50:aJ Tryz.prog 50:=⟨_,Tryz.func50,by decide,rfl⟩
theorem en_49:aJ Tryz.prog 49:=⟨_,Tryz.func49,by decide,rfl⟩
abbrev wj:Nat:=21
def mu (r:Sl):Value:=(sv r)
abbrev mh:Nat:=68
abbrev n_twin_View:Nat:=30
def nE (r:Sl):Value:=(sv r)
abbrev mX:Nat:=59
theorem build_63_0_1 (y0:Int) (y1:Int):∀ w,(Instr.build 63 #[(0,(.int .i64 y0)),(1,(.int .i64 y1))]).run Tryz.prog w = .ok (.agg (dK.C (⟨y0,y1,0,(⟨0,0,0,0,0⟩:ae),0,0⟩:dK)).toArray) w:=fun _=>by kernel_rfl
abbrev uj:Nat:=41
abbrev lB:Nat:=92
theorem en_92:aJ Tryz.prog 92:=⟨_,Tryz.func92,by decide,rfl⟩
abbrev lW:Nat:=46
abbrev we:Nat:=176
theorem en_176:aJ Tryz.prog 176:=⟨_,Tryz.func176,by decide,rfl⟩
abbrev n_user_Do:Nat:=136
def ib (r:Value):Value:=(r)
theorem build_248_0_1 (y0:Int) (y1:Int):∀ w,(Instr.build 248 #[(0,(.int .i64 y0)),(1,(.int .i64 y1))]).run Tryz.prog w = .ok (.agg (bR.C (⟨y0,y1,(⟨0,0,0,0,0⟩:ae),Value.nilIface⟩:bR)).toArray) w:=fun _=>by kernel_rfl
abbrev bd:Nat:=246
abbrev mV:Nat:=248
abbrev jZ:Nat:=142
abbrev fJ:Nat:=182
theorem ag_295:Ag Tryz.prog 295 3:=⟨⟨_,Tryz.underlying295,rfl⟩,bB (by kernel_rfl)⟩
abbrev eT:Nat:=229
def fd (r:aH):Value:=(.agg (aH.C r).toArray)
abbrev cN:Nat:=225
abbrev eW:Nat:=230
abbrev fW:Nat:=195
abbrev iL:Nat:=275
def fS (r:Value × Bool):Value:=.tuple #[(r.1),(.bool r.2)]
abbrev ie:Nat:=277
def fE (r:Value × Bool):Value:=.tuple #[(r.1),(.bool r.2)]
def R_Serror (r:Sl):Value:=(sv r)
theorem slc_278:Slc Tryz.prog 278 195 1:=⟨Tryz.underlying278,bB (by kernel_rfl)⟩
abbrev tM:Nat:=228
theorem en_228:aJ Tryz.prog 228:=⟨_,Tryz.func228,by decide,rfl⟩
theorem sc_195:Sc Tryz.prog 195:=⟨⟨_,Tryz.underlying195,rfl⟩,bB (by kernel_rfl)⟩
abbrev qa:Nat:=304
def mT (r:Value × Bool):Value:=.tuple #[(r.1),(.bool r.2)]
theorem zero_295:∃ i,Tryz.prog.info? 295 = some i∧i.zero = some (.agg (aH.C (⟨none,none,0⟩:aH)).toArray):=jA (by kernel_rfl)
abbrev ic:Nat:=226
def R_abi_Kind (r:Int):Value:=(.int .u8 r)
def str_6ae768b9:ByteArray:=⟨#[101,114,114,111,114,115,58,32,42,116,97,114,103,101,116,32,109,117,115,116,32,98,101,32,105,110,116,101,114,102,97,99,101,32,111,114,32,105,109,112,108,101,109,101,110,116,32,101,114,114,111,114]⟩
abbrev ut:Nat:=9
theorem sc_243:Sc Tryz.prog 243:=⟨⟨_,Tryz.underlying243,rfl⟩,bB (by kernel_rfl)⟩
abbrev eJ:Nat:=227
def str_ae9b7a08:ByteArray:=⟨#[101,114,114,111,114,115,58,32,116,97,114,103,101,116,32,109,117,115,116,32,98,101,32,97,32,110,111,110,45,110,105,108,32,112,111,105,110,116,101,114]⟩
theorem inf_295:∃ i,Tryz.prog.info? 295 = some i∧i.size = 3:=bB (by kernel_rfl)
def str_53947bae:ByteArray:=⟨#[101,114,114,111,114,115,58,32,116,97,114,103,101,116,32,99,97,110,110,111,116,32,98,101,32,110,105,108]⟩
abbrev tN:Nat:=223
def eo (r:Ptr × Bool):Value:=.tuple #[(pv r.1),(.bool r.2)]
theorem zero_246:∃ i,Tryz.prog.info? 246 = some i∧i.zero = some (pv none):=jA (by kernel_rfl)
theorem sc_246:Sc Tryz.prog 246:=⟨⟨_,Tryz.underlying246,rfl⟩,bB (by kernel_rfl)⟩
abbrev bv:Nat:=289
theorem en_223:aJ Tryz.prog 223:=⟨_,Tryz.func223,by decide,rfl⟩
abbrev jE:Nat:=217
theorem uW:Fld Tryz.prog 248 0 0:=bS (m:=1) Tryz.underlying248 rfl rfl (by kernel_rfl) (by decide)
theorem en_217:aJ Tryz.prog 217:=⟨_,Tryz.func217,by decide,rfl⟩
abbrev tK:Nat:=201
def R_trap_Trap (r:bR):Value:=(.agg (bR.C r).toArray)
theorem en_201:aJ Tryz.prog 201:=⟨_,Tryz.func201,by decide,rfl⟩
abbrev n_trap_In:Nat:=177
theorem wH:aJ Tryz.prog 142:=⟨_,Tryz.func142,by decide,rfl⟩
theorem en_177:aJ Tryz.prog 177:=⟨_,Tryz.func177,by decide,rfl⟩
abbrev mJ:Nat:=137
def oD (r:Ptr):Value:=(pv r)
theorem build_284_0 (y0:Int):∀ w,(Instr.build 284 #[(0,(.int .u64 y0))]).run Tryz.prog w = .ok (.agg (nC.C (⟨y0,0⟩:nC)).toArray) w:=fun _=>by kernel_rfl
abbrev qb:Nat:=284
abbrev sF:Nat:=202
def sW (r:Ptr):Value:=(pv r)
theorem build_286_0_1 (y0:Ptr) (y1:Ptr):∀ w,(Instr.build 286 #[(0,(pv y0)),(1,(pv y1))]).run Tryz.prog w = .ok (.agg (ki.C (⟨y0,y1⟩:ki)).toArray) w:=fun _=>by kernel_rfl
abbrev mg:Nat:=286
theorem en_202:aJ Tryz.prog 202:=⟨_,Tryz.func202,by decide,rfl⟩
abbrev wh:Nat:=203
theorem rP:Fld Tryz.prog 284 1 1:=bS (m:=1) Tryz.underlying284 rfl rfl (by kernel_rfl) (by decide)
theorem nu:Fld Tryz.prog 284 0 0:=bS (m:=1) Tryz.underlying284 rfl rfl (by kernel_rfl) (by decide)
abbrev ov:Nat:=204
theorem fld_286_0:Fld Tryz.prog 286 0 0:=bS (m:=1) Tryz.underlying286 rfl rfl (by kernel_rfl) (by decide)
theorem en_204:aJ Tryz.prog 204:=⟨_,Tryz.func204,by decide,rfl⟩
theorem sc_264:Sc Tryz.prog 264:=⟨⟨_,Tryz.underlying264,rfl⟩,bB (by kernel_rfl)⟩
abbrev mI:Nat:=205
abbrev ni:Nat:=183
theorem en_183:aJ Tryz.prog 183:=⟨_,Tryz.func183,by decide,rfl⟩
abbrev lN:Nat:=272
def jq (r:Value × Bool):Value:=.tuple #[(r.1),(.bool r.2)]
abbrev nj:Nat:=141
theorem fld_248_3:Fld Tryz.prog 248 3 7:=bS (m:=1) Tryz.underlying248 rfl rfl (by kernel_rfl) (by decide)
abbrev wg:Nat:=224
theorem jM (y0:Int) (y1:Int):∀ w,(Instr.build 34 #[(0,(.int .u64 y0)),(1,(.int .u64 y1))]).run Tryz.prog w = .ok (.agg (ae.C (⟨y0,y1,0,0,0⟩:ae)).toArray) w:=fun _=>by kernel_rfl
theorem fld_248_1:Fld Tryz.prog 248 1 1:=bS (m:=1) Tryz.underlying248 rfl rfl (by kernel_rfl) (by decide)
theorem fld_248_2:Fld Tryz.prog 248 2 2:=bS (m:=5) Tryz.underlying248 rfl rfl (by kernel_rfl) (by decide)
def ae.eqb (x y:ae):Bool:=((x.e0 == y.e0) && ((x.e1 == y.e1) && ((x.e2 == y.e2) && ((x.e3 == y.e3) && ((x.e4 == y.e4) && true)))))
theorem eqr_34 (n:Nat) (x y:ae):EqR Tryz.prog (n + 2) 34 (.agg (ae.C x).toArray) (.agg (ae.C y).toArray) (ae.eqb x y):=eqr_arr Tryz.underlying34 inf_22 ⟨_,_,_,_,(gK ck rfl),(gK ck rfl),(iV (n:=n + 0) Tryz.underlying22),⟨_,_,_,_,(gK ck rfl),(gK ck rfl),(iV (n:=n + 0) Tryz.underlying22),⟨_,_,_,_,(gK ck rfl),(gK ck rfl),(iV (n:=n + 0) Tryz.underlying22),⟨_,_,_,_,(gK ck rfl),(gK ck rfl),(iV (n:=n + 0) Tryz.underlying22),⟨_,_,_,_,(gK ck rfl),(gK ck rfl),(iV (n:=n + 0) Tryz.underlying22),rfl,rfl⟩,rfl⟩,rfl⟩,rfl⟩,rfl⟩
theorem eqg_34:Tryz.prog.eqGuardType Tryz.prog.depth 34 = false:=by kernel_rfl
def dM (r:ByteArray):Value:=(.string r)
def nJ:ByteArray:=⟨#[116,114,97,112,32,51,58,32,116,114,97,112,32,51]⟩
theorem en_141:aJ Tryz.prog 141:=⟨_,Tryz.func141,by decide,rfl⟩
theorem en_224:aJ Tryz.prog 224:=⟨_,Tryz.func224,by decide,rfl⟩
abbrev kY:Nat:=218
theorem en_218:aJ Tryz.prog 218:=⟨_,Tryz.func218,by decide,rfl⟩
abbrev kZ:Nat:=206
abbrev lH:Nat:=219
theorem fld_286_1:Fld Tryz.prog 286 1 1:=bS (m:=1) Tryz.underlying286 rfl rfl (by kernel_rfl) (by decide)
theorem en_219:aJ Tryz.prog 219:=⟨_,Tryz.func219,by decide,rfl⟩
abbrev jF:Nat:=207
abbrev qL:Nat:=220
theorem en_220:aJ Tryz.prog 220:=⟨_,Tryz.func220,by decide,rfl⟩
theorem en_207:aJ Tryz.prog 207:=⟨_,Tryz.func207,by decide,rfl⟩
abbrev mH:Nat:=208
abbrev n_word_Args:Nat:=209
abbrev px:Nat:=210
theorem build_34_0 (y0:Int):∀ w,(Instr.build 34 #[(0,(.int .u64 y0))]).run Tryz.prog w = .ok (.agg (ae.C (⟨y0,0,0,0,0⟩:ae)).toArray) w:=fun _=>by kernel_rfl
theorem dU (y0:Int) (y1:Int) (y2:Int) (y3:Int):∀ w,(Instr.build 34 #[(0,(.int .u64 y0)),(1,(.int .u64 y1)),(2,(.int .u64 y2)),(3,(.int .u64 y3))]).run Tryz.prog w = .ok (.agg (ae.C (⟨y0,y1,y2,y3,0⟩:ae)).toArray) w:=fun _=>by kernel_rfl
theorem en_210:aJ Tryz.prog 210:=⟨_,Tryz.func210,by decide,rfl⟩
theorem en_209:aJ Tryz.prog 209:=⟨_,Tryz.func209,by decide,rfl⟩
theorem en_208:aJ Tryz.prog 208:=⟨_,Tryz.func208,by decide,rfl⟩
theorem en_206:aJ Tryz.prog 206:=⟨_,Tryz.func206,by decide,rfl⟩
theorem en_205:aJ Tryz.prog 205:=⟨_,Tryz.func205,by decide,rfl⟩
theorem en_203:aJ Tryz.prog 203:=⟨_,Tryz.func203,by decide,rfl⟩
abbrev kW:Nat:=178
theorem en_178:aJ Tryz.prog 178:=⟨_,Tryz.func178,by decide,rfl⟩
abbrev kX:Nat:=138
theorem sT (y0:Int) (y1:Int) (y2:Int):∀ w,(Instr.build 27 #[(0,(.int .i64 y0)),(1,(.int .i64 y1)),(2,(.int .i64 y2))]).run Tryz.prog w = .ok (.agg (aE.C (⟨y0,y1,y2⟩:aE)).toArray) w:=fun _=>by kernel_rfl
theorem lp (y0:Int) (y1:Int) (y2:Int):∀ w,(Instr.build 34 #[(0,(.int .u64 y0)),(1,(.int .u64 y1)),(2,(.int .u64 y2))]).run Tryz.prog w = .ok (.agg (ae.C (⟨y0,y1,y2,0,0⟩:ae)).toArray) w:=fun _=>by kernel_rfl
theorem en_46:aJ Tryz.prog 46:=⟨_,Tryz.func46,by decide,rfl⟩
theorem en_138:aJ Tryz.prog 138:=⟨_,Tryz.func138,by decide,rfl⟩
theorem en_137:aJ Tryz.prog 137:=⟨_,Tryz.func137,by decide,rfl⟩
theorem en_136:aJ Tryz.prog 136:=⟨_,Tryz.func136,by decide,rfl⟩
abbrev kq:Nat:=85
theorem en_85:aJ Tryz.prog 85:=⟨_,Tryz.func85,by decide,rfl⟩
abbrev kr:Nat:=42
theorem slc_59:Slc Tryz.prog 59 63 10:=⟨Tryz.underlying59,bB (by kernel_rfl)⟩
theorem zero_63:∃ i,Tryz.prog.info? 63 = some i∧i.zero = some (.agg (dK.C (⟨0,0,0,(⟨0,0,0,0,0⟩:ae),0,0⟩:dK)).toArray):=jA (by kernel_rfl)
theorem fld_63_0:Fld Tryz.prog 63 0 0:=bS (m:=1) Tryz.underlying63 rfl rfl (by kernel_rfl) (by decide)
theorem fld_63_1:Fld Tryz.prog 63 1 1:=bS (m:=1) Tryz.underlying63 rfl rfl (by kernel_rfl) (by decide)
theorem inf_63:∃ i,Tryz.prog.info? 63 = some i∧i.size = 10:=bB (by kernel_rfl)
theorem ag_63:Ag Tryz.prog 63 10:=⟨⟨_,Tryz.underlying63,rfl⟩,bB (by kernel_rfl)⟩
abbrev ou:Nat:=90
theorem en_90:aJ Tryz.prog 90:=⟨_,Tryz.func90,by decide,rfl⟩
abbrev n_fair_Fair:Nat:=44
theorem zero_27:∃ i,Tryz.prog.info? 27 = some i∧i.zero = some (.agg (aE.C (⟨0,0,0⟩:aE)).toArray):=jA (by kernel_rfl)
theorem en_19:aJ Tryz.prog 19:=⟨_,Tryz.func19,by decide,rfl⟩
theorem en_30:aJ Tryz.prog 30:=⟨_,Tryz.func30,by decide,rfl⟩
theorem en_44:aJ Tryz.prog 44:=⟨_,Tryz.func44,by decide,rfl⟩
theorem en_42:aJ Tryz.prog 42:=⟨_,Tryz.func42,by decide,rfl⟩
theorem en_41:aJ Tryz.prog 41:=⟨_,Tryz.func41,by decide,rfl⟩
theorem en_16:aJ Tryz.prog 16:=⟨_,Tryz.func16,by decide,rfl⟩
theorem en_21:aJ Tryz.prog 21:=⟨_,Tryz.func21,by decide,rfl⟩
theorem inf_27:∃ i,Tryz.prog.info? 27 = some i∧i.size = 3:=bB (by kernel_rfl)
abbrev ko:Nat:=14
abbrev t_Sapi_Call:Nat:=66
def R_Sapi_Call (r:Sl):Value:=(sv r)
theorem slc_66:Slc Tryz.prog 66 34 5:=⟨Tryz.underlying66,bB (by kernel_rfl)⟩
theorem zero_34:∃ i,Tryz.prog.info? 34 = some i∧i.zero = some (.agg (ae.C (⟨0,0,0,0,0⟩:ae)).toArray):=jA (by kernel_rfl)
theorem inf_34:∃ i,Tryz.prog.info? 34 = some i∧i.size = 5:=bB (by kernel_rfl)
abbrev jJ:Nat:=15
theorem en_15:aJ Tryz.prog 15:=⟨_,Tryz.func15,by decide,rfl⟩
theorem en_14:aJ Tryz.prog 14:=⟨_,Tryz.func14,by decide,rfl⟩
abbrev jS:Nat:=3
abbrev t_api_Event:Nat:=54
abbrev t_api_Answer:Nat:=30
def ia.eqb (x y:ia):Bool:=((x.fEnv == y.fEnv) && ((x.fSlot == y.fSlot) && true))
def str_73df774b:ByteArray:=⟨#[48,49,50,51,52,53,54,55,56,57,97,98,99,100,101,102,103,104,105,106,107,108,109,110,111,112,113,114,115,116,117,118,119,120,121,122]⟩
def str_e9752c08:ByteArray:=⟨#[48,48,48,49,48,50,48,51,48,52,48,53,48,54,48,55,48,56,48,57,49,48,49,49,49,50,49,51,49,52,49,53,49,54,49,55,49,56,49,57,50,48,50,49,50,50,50,51,50,52,50,53,50,54,50,55,50,56,50,57,51,48,51,49,51,50,51,51,51,52,51,53,51,54,51,55,51,56,51,57,52,48,52,49,52,50,52,51,52,52,52,53,52,54,52,55,52,56,52,57,53,48,53,49,53,50,53,51,53,52,53,53,53,54,53,55,53,56,53,57,54,48,54,49,54,50,54,51,54,52,54,53,54,54,54,55,54,56,54,57,55,48,55,49,55,50,55,51,55,52,55,53,55,54,55,55,55,56,55,57,56,48,56,49,56,50,56,51,56,52,56,53,56,54,56,55,56,56,56,57,57,48,57,49,57,50,57,51,57,52,57,53,57,54,57,55,57,56,57,57]⟩
abbrev iN:Nat:=255
abbrev qJ:Nat:=256
theorem inf_5:∃ i,Tryz.prog.info? 5 = some i∧i.size = 1:=bB (by kernel_rfl)
abbrev oH:Nat:=257
def R_Suint8_string (r:Sl × ByteArray):Value:=.tuple #[(sv r.1),(.string r.2)]
def R_Suint8 (r:Sl):Value:=(sv r)
abbrev qo:Nat:=258
theorem en_255:aJ Tryz.prog 255:=⟨_,Tryz.func255,by decide,rfl⟩
theorem zero_325:∃ i,Tryz.prog.info? 325 = some i∧i.zero = some (.agg [.int .u8 0,.int .u8 0,.int .u8 0,.int .u8 0,.int .u8 0,.int .u8 0,.int .u8 0,.int .u8 0,.int .u8 0,.int .u8 0,.int .u8 0,.int .u8 0,.int .u8 0,.int .u8 0,.int .u8 0,.int .u8 0,.int .u8 0,.int .u8 0,.int .u8 0,.int .u8 0,.int .u8 0,.int .u8 0,.int .u8 0,.int .u8 0].toArray):=jA (by kernel_rfl)
abbrev vr:Nat:=325
theorem arr_325:Arr Tryz.prog 325 24 5 1:=⟨Tryz.underlying325,bB (by kernel_rfl)⟩
theorem en_257:aJ Tryz.prog 257:=⟨_,Tryz.func257,by decide,rfl⟩
theorem en_256:aJ Tryz.prog 256:=⟨_,Tryz.func256,by decide,rfl⟩
theorem en_258:aJ Tryz.prog 258:=⟨_,Tryz.func258,by decide,rfl⟩
abbrev gg:Nat:=254
theorem en_254:aJ Tryz.prog 254:=⟨_,Tryz.func254,by decide,rfl⟩
abbrev ji:Nat:=253
theorem en_253:aJ Tryz.prog 253:=⟨_,Tryz.func253,by decide,rfl⟩
abbrev sA:Nat:=252
theorem en_252:aJ Tryz.prog 252:=⟨_,Tryz.func252,by decide,rfl⟩
abbrev iz:Nat:=249
abbrev sx:Nat:=250
abbrev mG:Nat:=251
abbrev t_api_Pick:Nat:=63
abbrev t_api_Call:Nat:=34
abbrev rU:Nat:=94
abbrev eV:Nat:=96
abbrev dO:Nat:=153
abbrev t_uint64:Nat:=22
abbrev t_api_Line:Nat:=52
abbrev t_api_Pte:Nat:=121
abbrev t_bool:Nat:=4
abbrev qR:Nat:=270
abbrev t_tlb_line:Nat:=162
end Go.Proofs.YtmggcfijlpldpaaGreatDoor
namespace Go.Proofs.YtmggcfijlpldpaaGreatDoor
open Go Mb
set_option linter.unusedVariables false
theorem el_Sint:El Tryz.prog dB kA 1 8 [.int .i64 0]:=tS Tryz.underlying40 (by kernel_rfl) rfl
theorem pS:El Tryz.prog eC t_api_Event 16 128 [.int .i64 0,.int .i64 0,.int .u64 0,.int .u64 0,.int .u64 0,.int .u64 0,.int .u64 0,.int .i64 0,.int .i64 0,.int .i64 0,.int .i64 0,.int .u64 0,.int .i64 0,.int .i64 0,.int .i64 0,.int .i64 0]:=tS Tryz.underlying43 (by kernel_rfl) rfl
theorem el_Sapi_Pick:El Tryz.prog mX t_api_Pick 10 80 [.int .i64 0,.int .i64 0,.int .i64 0,.int .u64 0,.int .u64 0,.int .u64 0,.int .u64 0,.int .u64 0,.int .i64 0,.int .i64 0]:=tS Tryz.underlying59 (by kernel_rfl) rfl
theorem el_Sapi_Call:El Tryz.prog t_Sapi_Call t_api_Call 5 40 [.int .u64 0,.int .u64 0,.int .u64 0,.int .u64 0,.int .u64 0]:=tS Tryz.underlying66 (by kernel_rfl) rfl
theorem el_Sapi_Answer:El Tryz.prog mh t_api_Answer 2 16 [.int .i64 0,.int .u64 0]:=tS Tryz.underlying68 (by kernel_rfl) rfl
theorem el_SPtlb_Tlb:El Tryz.prog bI rU 1 8 [pv none]:=tS Tryz.underlying84 (by kernel_rfl) rfl
theorem el_SPkern_call:El Tryz.prog mi eV 1 8 [pv none]:=tS Tryz.underlying87 (by kernel_rfl) rfl
theorem vb:El Tryz.prog eD dO 1 8 [pv none]:=tS Tryz.underlying145 (by kernel_rfl) rfl
theorem tT:El Tryz.prog pn bb 1 24 [sv (⟨none,0,0,none⟩:Sl)]:=tS Tryz.underlying155 (by kernel_rfl) rfl
theorem fD:El Tryz.prog bb t_uint64 1 8 [.int .u64 0]:=tS Tryz.underlying158 (by kernel_rfl) rfl
theorem el_Sapi_Line:El Tryz.prog qc t_api_Line 4 32 [.int .i64 0,.int .i64 0,.int .i64 0,.int .i64 0]:=tS Tryz.underlying173 (by kernel_rfl) rfl
theorem sQ:El Tryz.prog gI rm 2 16 [.int .i64 0,.int .i64 0]:=tS Tryz.underlying197 (by kernel_rfl) rfl
theorem el_S_8_api_Cap:El Tryz.prog t_S_8_api_Cap kJ 32 256 [.int .i64 0,.int .i64 0,.int .i64 0,.int .i64 0,.int .i64 0,.int .i64 0,.int .i64 0,.int .i64 0,.int .i64 0,.int .i64 0,.int .i64 0,.int .i64 0,.int .i64 0,.int .i64 0,.int .i64 0,.int .i64 0,.int .i64 0,.int .i64 0,.int .i64 0,.int .i64 0,.int .i64 0,.int .i64 0,.int .i64 0,.int .i64 0,.int .i64 0,.int .i64 0,.int .i64 0,.int .i64 0,.int .i64 0,.int .i64 0,.int .i64 0,.int .i64 0]:=tS Tryz.underlying203 (by kernel_rfl) rfl
theorem el_Sapi_Pte:El Tryz.prog pj t_api_Pte 3 24 [.int .i64 0,.int .i64 0,.int .i64 0]:=tS Tryz.underlying234 (by kernel_rfl) rfl
theorem enter_hist_Order_c1:aJ Tryz.prog mB:=⟨_,Tryz.func86,by decide,rfl⟩
theorem enter_hist_Order_c2:aJ Tryz.prog qK:=⟨_,Tryz.func88,by decide,rfl⟩
theorem um:aJ Tryz.prog lf:=⟨_,Tryz.func180,by decide,rfl⟩
theorem va:aJ Tryz.prog gq:=⟨_,Tryz.func197,by decide,rfl⟩
theorem enter_hist_Over_c1:aJ Tryz.prog sD:=⟨_,Tryz.func215,by decide,rfl⟩
theorem mp_map_int_bool:Mp Tryz.prog iZ kA t_bool (.bool false):=⟨Tryz.underlying50,⟨_,Tryz.underlying3⟩,jA (by kernel_rfl)⟩
theorem mp_map_int_int:Mp Tryz.prog gH kA kA (.int .i64 0):=⟨Tryz.underlying113,⟨_,Tryz.underlying3⟩,jA (by kernel_rfl)⟩
theorem agn_8_api_Pte:Ag Tryz.prog td 24:=⟨⟨_,Tryz.underlying122,rfl⟩,bB (by kernel_rfl)⟩
theorem arn_8_api_Pte:Tryz.prog.underlying td = some (.array 8 t_api_Pte):=Tryz.underlying122
theorem age_8_api_Pte:Ag Tryz.prog t_api_Pte 3:=⟨⟨_,Tryz.underlying121,rfl⟩,bB (by kernel_rfl)⟩
theorem arn_2_tlb_line:Tryz.prog.underlying t_2_tlb_line = some (.array 2 t_tlb_line):=Tryz.underlying163
theorem age_2_tlb_line:Ag Tryz.prog t_tlb_line 5:=⟨⟨_,Tryz.underlying162,rfl⟩,bB (by kernel_rfl)⟩
theorem agn_8_api_Cap:Ag Tryz.prog kJ 32:=⟨⟨_,Tryz.underlying202,rfl⟩,bB (by kernel_rfl)⟩
theorem arn_8_api_Cap:Tryz.prog.underlying kJ = some (.array 8 fx):=Tryz.underlying202
theorem age_8_api_Cap:Ag Tryz.prog fx 4:=⟨⟨_,Tryz.underlying37,rfl⟩,bB (by kernel_rfl)⟩
end Go.Proofs.YtmggcfijlpldpaaGreatDoor
namespace Go.Proofs.YtmggcfijlpldpaaGreatDoor
open Go Mb
set_option linter.unusedVariables false
def sh_word_Kind (a0:ae) (K:(Int × Bool)→Hp→Prop):Hp→Prop:=br (((decide (a0.e0 ≥ 1)) && (decide (a0.e0 ≤ 10))) || ((decide (a0.e0 ≥ 20)) && (decide (a0.e0 ≤ 23)))) ( K ((IntKind.i64.wrap a0.e0),true)) ( K (0,false))
theorem sim_word_Kind (a0:ae) {K:(Int × Bool)→Hp→Prop} {h:Hp} (H:sh_word_Kind a0 K h):Ct Tryz.prog n_word_Kind #[(.agg (ae.C a0).toArray)] h fun v h'=>∃ r,v = bH r∧K r h':=au [(.agg (ae.C a0).toArray)] Tryz.func53 c c c fun _=>M<|aa<|cD (l:=ae.C a0) c c c fun b1=>p (aq c)<|O c<|aj<|M<|p (bu cW c c (by decide))<|bg (bc (k:=0) ck c c c) c<|O c<|M<|J c<|p (jr c c)<|J c<|V c c (aw _) (fun g1=>wv<|ag c)<|V c c (aw _) (fun g2=>wv<|v_le (az c g2) c)<|p (bN c c)<|J c<|V c c (aG _) (fun g3=>wv<|ag c)<|V c c (aG _) (fun g4=>wv<|jr (az c g4) c)<|V c c (aG _) (fun g5=>wv<|ag<|az c g5)<|V c c (qQ _ _) (fun g6=>wv<|ag c)<|V c c (qQ _ _) (fun g7=>wv<|v_le (az c g7) c)<|V c c (aG _) (fun g8=>wv<|bN (az c g8)<|aL c<|wu g8)<|p (cZ c c)<|ac<|ar c H (fun k9 H10=>M<|J c<|p (dr ⟨_,Tryz.underlying22⟩ Tryz.underlying3 c)<|p (aq c)<|O c<|ah<|bt (bJ c (bT c)<|bT c) ⟨((IntKind.i64.wrap a0.e0),true),c,H10⟩) fun k9 H10=>am<|M<|p (aq c)<|O c<|ah<|bt (bJ c (bT c)<|bT c) ⟨(0,false),c,H10⟩
def aB (a0:ae):Int × Bool:=(bif (((decide (a0.e0 ≥ 1)) && (decide (a0.e0 ≤ 10))) || ((decide (a0.e0 ≥ 20)) && (decide (a0.e0 ≤ 23)))) then (((IntKind.i64.wrap a0.e0),true)) else ((0,false)))
theorem pr_word_Kind (a0:ae) {K:(Int × Bool)→Hp→Prop} {h:Hp} (k:K (aB a0) h):sh_word_Kind a0 K h:=(jN (K:=K) (fun k=>k) (fun k=>k)) k
theorem jL (a0:ae) (h:Hp):Ct Tryz.prog n_word_Kind #[(.agg (ae.C a0).toArray)] h fun v h'=>∃ r,v = bH r∧(r = aB a0∧h' = h):=sim_word_Kind a0 (pr_word_Kind a0 ⟨rfl,rfl⟩)
def sh_word_User (a0:Int) (K:Bool→Hp→Prop):Hp→Prop:=K ((decide (a0 ≥ 20)) && (decide (a0 ≤ 23)))
theorem sim_word_User (a0:Int) {K:Bool→Hp→Prop} {h:Hp} (H:sh_word_User a0 K h):Ct Tryz.prog n_word_User #[(.int .i64 a0)] h fun v h'=>∃ r,v = ay r∧K r h':=au [(.int .i64 a0)] Tryz.func54 c c c fun _=>M<|O c<|M<|J c<|p (jr c c)<|J c<|V c c (aw _) (fun g1=>wv<|ag c)<|V c c (aw _) (fun g2=>wv<|v_le (az c g2) c)<|p (bN c c)<|O c<|ah<|Y ⟨((decide (a0 ≥ 20)) && (decide (a0 ≤ 23))),c,H⟩
def dk (a0:Int):Bool:=(((decide (a0 ≥ 20)) && (decide (a0 ≤ 23))))
theorem pr_word_User (a0:Int) {K:Bool→Hp→Prop} {h:Hp} (k:K (dk a0) h):sh_word_User a0 K h:=(fun k=>k) k
theorem rG (a0:Int) (h:Hp):Ct Tryz.prog n_word_User #[(.int .i64 a0)] h fun v h'=>∃ r,v = ay r∧(r = dk a0∧h' = h):=sim_word_User a0 (pr_word_User a0 ⟨rfl,rfl⟩)
def sh_word_Rights (a0:Int) (K:(Int × Bool)→Hp→Prop):Hp→Prop:=br ((decide (a0 < 1)) || (decide (a0 > 3))) ( K (0,false)) ( K ((IntKind.i64.wrap a0),true))
theorem sim_word_Rights (a0:Int) {K:(Int × Bool)→Hp→Prop} {h:Hp} (H:sh_word_Rights a0 K h):Ct Tryz.prog n_word_Rights #[(.int .u64 a0)] h fun v h'=>∃ r,v = bH r∧K r h':=au [(.int .u64 a0)] Tryz.func186 c c c fun _=>M<|p (aq c)<|O c<|aj<|M<|J c<|p (cm c c)<|J c<|V c c (aG _) (fun g1=>wv<|ag c)<|V c c (aG _) (fun g2=>wv<|pY (az c g2) c)<|p (cZ c c)<|ac<|ar c H (fun k3 H4=>M<|p (aq c)<|O c<|ah<|bt (bJ c (bT c)<|bT c) ⟨(0,false),c,H4⟩) fun k3 H4=>am<|M<|J c<|p (dr ⟨_,Tryz.underlying22⟩ Tryz.underlying3 c)<|p (aq c)<|O c<|ah<|bt (bJ c (bT c)<|bT c) ⟨((IntKind.i64.wrap a0),true),c,H4⟩
def kR (a0:Int):Int × Bool:=(bif ((decide (a0 < 1)) || (decide (a0 > 3))) then ((0,false)) else (((IntKind.i64.wrap a0),true)))
theorem pr_word_Rights (a0:Int) {K:(Int × Bool)→Hp→Prop} {h:Hp} (k:K (kR a0) h):sh_word_Rights a0 K h:=(jN (K:=K) (fun k=>k) (fun k=>k)) k
theorem ct_word_Rights (a0:Int) (h:Hp):Ct Tryz.prog n_word_Rights #[(.int .u64 a0)] h fun v h'=>∃ r,v = bH r∧(r = kR a0∧h' = h):=sim_word_Rights a0 (pr_word_Rights a0 ⟨rfl,rfl⟩)
def sh_table_is (a0:Int) (K:Bool→Hp→Prop):Hp→Prop:=K ((decide (a0 ≥ 0)) && (decide (a0 < 8)))
theorem sim_table_is (a0:Int) {K:Bool→Hp→Prop} {h:Hp} (H:sh_table_is a0 K h):Ct Tryz.prog n_table_is #[(.int .i64 a0)] h fun v h'=>∃ r,v = ay r∧K r h':=au [(.int .i64 a0)] Tryz.func150 c c c fun _=>M<|O c<|M<|J c<|p (jr c c)<|J c<|V c c (aw _) (fun g1=>wv<|ag c)<|V c c (aw _) (fun g2=>wv<|cm (az c g2) c)<|p (bN c c)<|O c<|ah<|Y ⟨((decide (a0 ≥ 0)) && (decide (a0 < 8))),c,H⟩
def ct (a0:Int):Bool:=(((decide (a0 ≥ 0)) && (decide (a0 < 8))))
theorem pr_table_is (a0:Int) {K:Bool→Hp→Prop} {h:Hp} (k:K (ct a0) h):sh_table_is a0 K h:=(fun k=>k) k
theorem tU (a0:Int) (h:Hp):Ct Tryz.prog n_table_is #[(.int .i64 a0)] h fun v h'=>∃ r,v = ay r∧(r = ct a0∧h' = h):=sim_table_is a0 (pr_table_is a0 ⟨rfl,rfl⟩)
def sh_pte_May (a0:Int) (K:Bool→Hp→Prop):Hp→Prop:=K ((decide (a0 ≥ 1)) && (decide (a0 ≤ 3)))
theorem sim_pte_May (a0:Int) {K:Bool→Hp→Prop} {h:Hp} (H:sh_pte_May a0 K h):Ct Tryz.prog n_pte_May #[(.int .i64 a0)] h fun v h'=>∃ r,v = ay r∧K r h':=au [(.int .i64 a0)] Tryz.func161 c c c fun _=>M<|O c<|M<|J c<|p (jr c c)<|J c<|V c c (aw _) (fun g1=>wv<|ag c)<|V c c (aw _) (fun g2=>wv<|v_le (az c g2) c)<|p (bN c c)<|O c<|ah<|Y ⟨((decide (a0 ≥ 1)) && (decide (a0 ≤ 3))),c,H⟩
def cw (a0:Int):Bool:=(((decide (a0 ≥ 1)) && (decide (a0 ≤ 3))))
theorem pr_pte_May (a0:Int) {K:Bool→Hp→Prop} {h:Hp} (k:K (cw a0) h):sh_pte_May a0 K h:=(fun k=>k) k
theorem pJ (a0:Int) (h:Hp):Ct Tryz.prog n_pte_May #[(.int .i64 a0)] h fun v h'=>∃ r,v = ay r∧(r = cw a0∧h' = h):=sim_pte_May a0 (pr_pte_May a0 ⟨rfl,rfl⟩)
def sh_pte_Within (a0:Int) (a1:Int) (K:Bool→Hp→Prop):Hp→Prop:=K (((cw a0) && (cw a1)) && ((iandnot .i64 a0 a1) == 0))
theorem sim_pte_Within (a0:Int) (a1:Int) {K:Bool→Hp→Prop} {h:Hp} (H:sh_pte_Within a0 a1 K h):Ct Tryz.prog n_pte_Within #[(.int .i64 a0),(.int .i64 a1)] h fun v h'=>∃ r,v = ay r∧K r h':=au [(.int .i64 a0),(.int .i64 a1)] Tryz.func106 c c c fun _=>M<|O c<|M<|J c<|aa<|cA (vs:=[(.int .i64 a0)]) (bq<|pJ a0 _) en_161 c c<|J c<|V c c (aw _) (fun g1=>wv<|ag c)<|cR (vs:=[(.int .i64 a1)]) c c c (aw _) (fun g2=>bq<|pJ a1 _) en_161 (fun g2=>aP (az c g2) bL) c<|p (bN c c)<|J c<|V c c (aw _) (fun g3=>wv<|ag c)<|V c c (aw _) (fun g4=>wv<|ag c)<|V c c (aw _) (fun g5=>wv<|v_iandnot (az c g5)<|az c g5)<|V c c (aw _) (fun g6=>wv<|bM (az c g6) c)<|p (bN c c)<|O c<|ah<|Y ⟨(((cw a0) && (cw a1)) && ((iandnot .i64 a0 a1) == 0)),c,H⟩
def be (a0:Int) (a1:Int):Bool:=((((cw a0) && (cw a1)) && ((iandnot .i64 a0 a1) == 0)))
theorem pr_pte_Within (a0:Int) (a1:Int) {K:Bool→Hp→Prop} {h:Hp} (k:K (be a0 a1) h):sh_pte_Within a0 a1 K h:=(fun k=>k) k
theorem cU (a0:Int) (a1:Int) (h:Hp):Ct Tryz.prog n_pte_Within #[(.int .i64 a0),(.int .i64 a1)] h fun v h'=>∃ r,v = ay r∧(r = be a0 a1∧h' = h):=sim_pte_Within a0 a1 (pr_pte_Within a0 a1 ⟨rfl,rfl⟩)
def sh_pte_Put (a0:ak) (K:(Int × Bool)→Hp→Prop):Hp→Prop:=br (ak.eqb a0 (⟨0,0,0⟩:ak)) ( K (0,true)) ( br (((((decide (a0.fFrame < 0)) || (decide (a0.fFrame ≥ 16))) || (decide (a0.fSlot < 0))) || (decide (a0.fSlot ≥ 8))) || (!(cw a0.fRights))) ( K (0,false)) ( K ((IntKind.u64.wrap (IntKind.i64.wrap ((IntKind.i64.wrap ((IntKind.i64.wrap (32768 + (IntKind.i64.wrap (256 * a0.fFrame)))) + (IntKind.i64.wrap (16 * a0.fSlot)))) + a0.fRights))),true)))
theorem sim_pte_Put (a0:ak) {K:(Int × Bool)→Hp→Prop} {h:Hp} (H:sh_pte_Put a0 K h):Ct Tryz.prog n_pte_Put #[(.agg (ak.C a0).toArray)] h fun v h'=>∃ r,v = bG r∧K r h':=au [(.agg (ak.C a0).toArray)] Tryz.func149 c c c fun _=>M<|aa<|cD (l:=ak.C a0) c c c fun b1=>p (aq c)<|O c<|aj<|M<|bg (bw (k:=0) dE c c c c) c<|p (aW (vs:=[]) c ke)<|p (v_eqA eqg_121 (eqr_121 9998 _ _) c c)<|ac<|ar c H (fun k1 H2=>M<|p (aq c)<|O c<|ah<|bt (bJ c (bT c)<|bT c) ⟨(0,true),c,H2⟩) fun k1 H2=>am<|aj<|M<|p (ad nz c)<|bg (bc (k:=0) aY c c c) c<|p (cm c c)<|J c<|V c c (aG _) (fun g3=>wv<|ad nz c)<|V c c (aG _) (fun g4=>cv<|bc (k:=0) aY (az c g4) c c)<|V c c (aG _) (fun g5=>wv<|jr (az c g5) c)<|p (cZ c c)<|J c<|V c c (aG _) (fun g6=>wv<|ad pH c)<|V c c (aG _) (fun g7=>cv<|bc (k:=0) aY (az c g7) c c)<|V c c (aG _) (fun g8=>wv<|cm (az c g8) c)<|p (cZ c c)<|J c<|V c c (aG _) (fun g9=>wv<|ad pH c)<|V c c (aG _) (fun g10=>cv<|bc (k:=0) aY (az c g10) c c)<|V c c (aG _) (fun g11=>wv<|jr (az c g11) c)<|p (cZ c c)<|J c<|V c c (aG _) (fun g12=>wv<|ad dG c)<|V c c (aG _) (fun g13=>cv<|bc (k:=0) aY (az c g13) c c)<|cR (vs:=[(.int .i64 a0.fRights)]) c c c (aG _) (fun g14=>bq<|pJ a0.fRights _) en_161 (fun g14=>aP (az c g14) bL) c<|V c c (aG _) (fun g15=>wv<|cf<|az c g15)<|p (cZ c c)<|ac<|ar c H2 (fun k16 H17=>M<|p (aq c)<|O c<|ah<|bt (bJ c (bT c)<|bT c) ⟨(0,false),c,H17⟩) fun k16 H17=>am<|M<|p (ad nz c)<|bg (bc (k:=0) aY c c c) c<|p (v_mul c c)<|p (bp c c)<|p (ad pH c)<|bg (bc (k:=0) aY c c c) c<|p (v_mul c c)<|p (bp c c)<|p (ad dG c)<|bg (bc (k:=0) aY c c c) c<|p (bp c c)<|p (dr ⟨_,Tryz.underlying3⟩ Tryz.underlying22 c)<|p (aq c)<|O c<|ah<|bt (bJ c (bT c)<|bT c) ⟨((IntKind.u64.wrap (IntKind.i64.wrap ((IntKind.i64.wrap ((IntKind.i64.wrap (32768 + (IntKind.i64.wrap (256 * a0.fFrame)))) + (IntKind.i64.wrap (16 * a0.fSlot)))) + a0.fRights))),true),c,H17⟩
def ge (a0:ak):Int × Bool:=(bif (ak.eqb a0 (⟨0,0,0⟩:ak)) then ((0,true)) else (bif (((((decide (a0.fFrame < 0)) || (decide (a0.fFrame ≥ 16))) || (decide (a0.fSlot < 0))) || (decide (a0.fSlot ≥ 8))) || (!(cw a0.fRights))) then ((0,false)) else (((IntKind.u64.wrap (IntKind.i64.wrap ((IntKind.i64.wrap ((IntKind.i64.wrap (32768 + (IntKind.i64.wrap (256 * a0.fFrame)))) + (IntKind.i64.wrap (16 * a0.fSlot)))) + a0.fRights))),true))))
theorem pr_pte_Put (a0:ak) {K:(Int × Bool)→Hp→Prop} {h:Hp} (k:K (ge a0) h):sh_pte_Put a0 K h:=(jN (K:=K) (fun k=>k) (jN (K:=K) (fun k=>k) (fun k=>k))) k
theorem ct_pte_Put (a0:ak) (h:Hp):Ct Tryz.prog n_pte_Put #[(.agg (ak.C a0).toArray)] h fun v h'=>∃ r,v = bG r∧(r = ge a0∧h' = h):=sim_pte_Put a0 (pr_pte_Put a0 ⟨rfl,rfl⟩)
def sh_tlb_empty (K:al→Hp→Prop):Hp→Prop:=K (⟨(-1),0,0,0⟩:al)
theorem sim_tlb_empty {K:al→Hp→Prop} {h:Hp} (H:sh_tlb_empty K h):Ct Tryz.prog n_tlb_empty #[] h fun v h'=>∃ r,v = R_api_Line r∧K r h':=au [] Tryz.func146 c c c fun _=>M<|aa<|aK (l:=al.C (⟨0,0,0,0⟩:al)) kz c c fun b0=>ac<|M<|p (aW c<|build_52_0 (-1))<|aa<|aN (k:=0) (vs:=al.C (⟨(-1),0,0,0⟩:al)) ft c c c c c c c<|ac<|ah<|bt (mn c<|bz (k:=0) c gM c c) ⟨(⟨(-1),0,0,0⟩:al),c,H⟩
def gA:al:=((⟨(-1),0,0,0⟩:al))
theorem pr_tlb_empty {K:al→Hp→Prop} {h:Hp} (k:K (gA) h):sh_tlb_empty K h:=(fun k=>k) k
theorem ct_tlb_empty (h:Hp):Ct Tryz.prog n_tlb_empty #[] h fun v h'=>∃ r,v = R_api_Line r∧(r = gA∧h' = h):=sim_tlb_empty (pr_tlb_empty ⟨rfl,rfl⟩)
def sh_pte_Lets (a0:Int) (a1:Int) (K:Bool→Hp→Prop):Hp→Prop:=br (a1 == 20) ( K (be 1 a0)) ( br (a1 == 21) ( K (be 2 a0)) ( br (a1 == 22) ( K (be 3 a0)) ( br (a1 == 23) ( K (be 3 a0)) ( K (be 0 a0)))))
theorem sim_pte_Lets (a0:Int) (a1:Int) {K:Bool→Hp→Prop} {h:Hp} (H:sh_pte_Lets a0 a1 K h):Ct Tryz.prog n_pte_Lets #[(.int .i64 a0),(.int .i64 a1)] h fun v h'=>∃ r,v = ay r∧K r h':=au [(.int .i64 a0),(.int .i64 a1)] Tryz.func152 c c c fun _=>M<|O c<|M<|O c<|aj<|M<|J c<|ac<|av<|M<|p (bM c c)<|O c<|ar c H (fun k1 H2=>ap<|O c<|M<|J c<|J c<|aa<|cA (vs:=[(.int .i64 1),(.int .i64 a0)]) (bq<|cU 1 a0 _) lZ c c<|O c<|ah<|Y ⟨be 1 a0,c,H2⟩) fun k1 H2=>M<|p (bM c c)<|O c<|ar c H2 (fun k3 H4=>ap<|O c<|M<|J c<|J c<|aa<|cA (vs:=[(.int .i64 2),(.int .i64 a0)]) (bq<|cU 2 a0 _) lZ c c<|O c<|ah<|Y ⟨be 2 a0,c,H4⟩) fun k3 H4=>aj<|M<|p (bM c c)<|O c<|ar c H4 (fun k5 H6=>am<|lY c k5<|ap<|O c<|M<|J c<|J c<|aa<|cA (vs:=[(.int .i64 3),(.int .i64 a0)]) (bq<|cU 3 a0 _) lZ c c<|O c<|ah<|Y ⟨be 3 a0,c,H6⟩) fun k5 H6=>ap<|p (bM c c)<|O c<|ar c H6 (fun k7 H8=>ap<|O c<|M<|J c<|J c<|aa<|cA (vs:=[(.int .i64 3),(.int .i64 a0)]) (bq<|cU 3 a0 _) lZ c c<|O c<|ah<|Y ⟨be 3 a0,c,H8⟩) fun k7 H8=>am<|M<|J c<|J c<|aa<|cA (vs:=[(.int .i64 0),(.int .i64 a0)]) (bq<|cU 0 a0 _) lZ c c<|O c<|ah<|Y ⟨be 0 a0,c,H8⟩
def dh (a0:Int) (a1:Int):Bool:=(bif (a1 == 20) then ((be 1 a0)) else (bif (a1 == 21) then ((be 2 a0)) else (bif (a1 == 22) then ((be 3 a0)) else (bif (a1 == 23) then ((be 3 a0)) else ((be 0 a0))))))
theorem pr_pte_Lets (a0:Int) (a1:Int) {K:Bool→Hp→Prop} {h:Hp} (k:K (dh a0 a1) h):sh_pte_Lets a0 a1 K h:=(jN (K:=K) (fun k=>k) (jN (K:=K) (fun k=>k) (jN (K:=K) (fun k=>k) (jN (K:=K) (fun k=>k) (fun k=>k))))) k
theorem jy (a0:Int) (a1:Int) (h:Hp):Ct Tryz.prog n_pte_Lets #[(.int .i64 a0),(.int .i64 a1)] h fun v h'=>∃ r,v = ay r∧(r = dh a0 a1∧h' = h):=sim_pte_Lets a0 a1 (pr_pte_Lets a0 a1 ⟨rfl,rfl⟩)
def rg (a0:Int) (K:Bool→Hp→Prop):Hp→Prop:=K (a0 != a0)
theorem sim_cmp_isNaN_uint64 (a0:Int) {K:Bool→Hp→Prop} {h:Hp} (H:rg a0 K h):Ct Tryz.prog sE #[(.int .u64 a0)] h fun v h'=>∃ r,v = ay r∧K r h':=au [(.int .u64 a0)] Tryz.func213 c c c fun _=>M<|O c<|M<|J c<|J c<|p (nF c c)<|O c<|ah<|Y ⟨(a0 != a0),c,H⟩
def dl (a0:Int):Bool:=((a0 != a0))
theorem pr_cmp_isNaN_uint64 (a0:Int) {K:Bool→Hp→Prop} {h:Hp} (k:K (dl a0) h):rg a0 K h:=(fun k=>k) k
theorem rj (a0:Int) (h:Hp):Ct Tryz.prog sE #[(.int .u64 a0)] h fun v h'=>∃ r,v = ay r∧(r = dl a0∧h' = h):=sim_cmp_isNaN_uint64 a0 (pr_cmp_isNaN_uint64 a0 ⟨rfl,rfl⟩)
def sj (a0:Int) (a1:Int) (K:Bool→Hp→Prop):Hp→Prop:=K (((dl a0) && (!(dl a1))) || (decide (a0 < a1)))
theorem sim_cmp_Less_uint64 (a0:Int) (a1:Int) {K:Bool→Hp→Prop} {h:Hp} (H:sj a0 a1 K h):Ct Tryz.prog tO #[(.int .u64 a0),(.int .u64 a1)] h fun v h'=>∃ r,v = ay r∧K r h':=au [(.int .u64 a0),(.int .u64 a1)] Tryz.func189 c c c fun _=>M<|O c<|M<|J c<|aa<|cA (vs:=[(.int .u64 a0)]) (bq<|rj a0 _) en_213 c c<|J c<|V c c (aw _) (fun g1=>wv<|ag c)<|cR (vs:=[(.int .u64 a1)]) c c c (aw _) (fun g2=>bq<|rj a1 _) en_213 (fun g2=>aP (az c g2) bL) c<|V c c (aw _) (fun g3=>wv<|cf<|az c g3)<|p (bN c c)<|J c<|V c c (aG _) (fun g4=>wv<|ag c)<|V c c (aG _) (fun g5=>wv<|ag c)<|V c c (aG _) (fun g6=>wv<|cm (az c g6)<|az c g6)<|p (cZ c c)<|O c<|ah<|Y ⟨(((dl a0) && (!(dl a1))) || (decide (a0 < a1))),c,H⟩
def gT (a0:Int) (a1:Int):Bool:=((((dl a0) && (!(dl a1))) || (decide (a0 < a1))))
theorem pr_cmp_Less_uint64 (a0:Int) (a1:Int) {K:Bool→Hp→Prop} {h:Hp} (k:K (gT a0 a1) h):sj a0 a1 K h:=(fun k=>k) k
theorem ct_cmp_Less_uint64 (a0:Int) (a1:Int) (h:Hp):Ct Tryz.prog tO #[(.int .u64 a0),(.int .u64 a1)] h fun v h'=>∃ r,v = ay r∧(r = gT a0 a1∧h' = h):=sim_cmp_Less_uint64 a0 a1 (pr_cmp_Less_uint64 a0 a1 ⟨rfl,rfl⟩)
def nP (a0:Int) (K:Bool→Hp→Prop):Hp→Prop:=K (a0 != a0)
theorem uv (a0:Int) {K:Bool→Hp→Prop} {h:Hp} (H:nP a0 K h):Ct Tryz.prog oW #[(.int .u64 a0)] h fun v h'=>∃ r,v = ay r∧K r h':=au [(.int .u64 a0)] Tryz.func190 c c c fun _=>M<|O c<|M<|J c<|J c<|p (nF c c)<|O c<|ah<|Y ⟨(a0 != a0),c,H⟩
def dy (a0:Int):Bool:=((a0 != a0))
theorem wb (a0:Int) {K:Bool→Hp→Prop} {h:Hp} (k:K (dy a0) h):nP a0 K h:=(fun k=>k) k
theorem oB (a0:Int) (h:Hp):Ct Tryz.prog oW #[(.int .u64 a0)] h fun v h'=>∃ r,v = ay r∧(r = dy a0∧h' = h):=uv a0 (wb a0 ⟨rfl,rfl⟩)
def sh_plain_fails (a0:Int) (K:(ab × Bool)→Hp→Prop):Hp→Prop:=K ((⟨a0,0⟩:ab),true)
theorem sim_plain_fails (a0:Int) {K:(ab × Bool)→Hp→Prop} {h:Hp} (H:sh_plain_fails a0 K h):Ct Tryz.prog n_plain_fails #[(.int .i64 a0)] h fun v h'=>∃ r,v = aX r∧K r h':=au [(.int .i64 a0)] Tryz.func113 c c c fun _=>M<|aa<|aK (l:=ab.C (⟨0,0⟩:ab)) cE c c fun b2=>O c<|M<|J c<|p (aW c<|iR a0)<|aa<|aN (k:=0) (vs:=ab.C (⟨a0,0⟩:ab)) bF c c c c c c c<|O c<|ah<|bt (bJ c (bz (k:=0) c co c c)<|bT c) ⟨((⟨a0,0⟩:ab),true),c,H⟩
def aM (a0:Int):ab × Bool:=(((⟨a0,0⟩:ab),true))
theorem pr_plain_fails (a0:Int) {K:(ab × Bool)→Hp→Prop} {h:Hp} (k:K (aM a0) h):sh_plain_fails a0 K h:=(fun k=>k) k
theorem dD (a0:Int) (h:Hp):Ct Tryz.prog n_plain_fails #[(.int .i64 a0)] h fun v h'=>∃ r,v = aX r∧(r = aM a0∧h' = h):=sim_plain_fails a0 (pr_plain_fails a0 ⟨rfl,rfl⟩)
def sh_pred_Holds (a0:Int) (a1:Int) (a2:Int) (K:Bool→Hp→Prop):Hp→Prop:=br (a0 == 1) ( K (a1 == a2)) ( br (a0 == 2) ( K (a1 != a2)) ( br (a0 == 3) ( K (decide (a1 < a2))) ( br (a0 == 4) ( K (decide (a1 > a2))) ( K false))))
theorem sim_pred_Holds (a0:Int) (a1:Int) (a2:Int) {K:Bool→Hp→Prop} {h:Hp} (H:sh_pred_Holds a0 a1 a2 K h):Ct Tryz.prog n_pred_Holds #[(.int .i64 a0),(.int .u64 a1),(.int .u64 a2)] h fun v h'=>∃ r,v = ay r∧K r h':=au [(.int .i64 a0),(.int .u64 a1),(.int .u64 a2)] Tryz.func140 c c c fun _=>M<|O c<|aj<|M<|J c<|ac<|av<|M<|p (bM c c)<|O c<|ar c H (fun k1 H2=>M<|J c<|J c<|p (bM c c)<|O c<|ah<|Y ⟨(a1 == a2),c,H2⟩) fun k1 H2=>M<|p (bM c c)<|O c<|ar c H2 (fun k3 H4=>M<|J c<|J c<|p (nF c c)<|O c<|ah<|Y ⟨(a1 != a2),c,H4⟩) fun k3 H4=>M<|p (bM c c)<|O c<|ar c H4 (fun k5 H6=>M<|J c<|J c<|p (cm c c)<|O c<|ah<|Y ⟨decide (a1 < a2),c,H6⟩) fun k5 H6=>M<|p (bM c c)<|O c<|ar c H6 (fun k7 H8=>M<|J c<|J c<|p (pY c c)<|O c<|ah<|Y ⟨decide (a1 > a2),c,H8⟩) fun k7 H8=>am<|M<|O c<|ah<|Y ⟨false,c,H8⟩
def mo (a0:Int) (a1:Int) (a2:Int):Bool:=(bif (a0 == 1) then ((a1 == a2)) else (bif (a0 == 2) then ((a1 != a2)) else (bif (a0 == 3) then ((decide (a1 < a2))) else (bif (a0 == 4) then ((decide (a1 > a2))) else (false)))))
theorem pr_pred_Holds (a0:Int) (a1:Int) (a2:Int) {K:Bool→Hp→Prop} {h:Hp} (k:K (mo a0 a1 a2) h):sh_pred_Holds a0 a1 a2 K h:=(jN (K:=K) (fun k=>k) (jN (K:=K) (fun k=>k) (jN (K:=K) (fun k=>k) (jN (K:=K) (fun k=>k) (fun k=>k))))) k
theorem uq (a0:Int) (a1:Int) (a2:Int) (h:Hp):Ct Tryz.prog n_pred_Holds #[(.int .i64 a0),(.int .u64 a1),(.int .u64 a2)] h fun v h'=>∃ r,v = ay r∧(r = mo a0 a1 a2∧h' = h):=sim_pred_Holds a0 a1 a2 (pr_pred_Holds a0 a1 a2 ⟨rfl,rfl⟩)
def sh_hist_one (a0:aA) (a1:aE) (a2:Int) (K:Bool→Hp→Prop):Hp→Prop:=br (((((decide (a0.fCore < 0)) || (decide (a0.fCore ≥ a1.fCores))) || (decide (a0.fEnv < 0))) || (decide (a0.fEnv ≥ a1.fEnvs))) || (decide (a0.fBegin ≤ a2))) ( K false) ( br (a0.fEffect == 0) ( K (a0.fEnd == 0)) ( K ((decide (a0.fEffect ≥ a0.fBegin)) && ((a0.fEnd == 0) || (decide (a0.fEnd ≥ a0.fEffect))))))
theorem sim_hist_one (a0:aA) (a1:aE) (a2:Int) {K:Bool→Hp→Prop} {h:Hp} (H:sh_hist_one a0 a1 a2 K h):Ct Tryz.prog n_hist_one #[(.agg (aA.C a0).toArray),(.agg (aE.C a1).toArray),(.int .i64 a2)] h fun v h'=>∃ r,v = ay r∧K r h':=au [(.agg (aA.C a0).toArray),(.agg (aE.C a1).toArray),(.int .i64 a2)] Tryz.func69 c c c fun _=>M<|aa<|cD (l:=aA.C a0) c c c fun b3=>aa<|cD (l:=aE.C a1) c c c fun b4=>O c<|aj<|av<|M<|p (ad sK c)<|bg (bc (k:=1) aY c c c) c<|p (cm c c)<|J c<|V c c (aG _) (fun g1=>wv<|ad sK c)<|V c c (aG _) (fun g2=>cv<|bc (k:=1) aY (az c g2) c c)<|V c c (aG _) (fun g3=>wv<|ad oA c)<|V c c (aG _) (fun g4=>cv<|bc (k:=0) aY (az c g4) c c)<|V c c (aG _) (fun g5=>wv<|jr (az c g5)<|az c g5)<|p (cZ c c)<|J c<|V c c (aG _) (fun g6=>wv<|ad oz c)<|V c c (aG _) (fun g7=>cv<|bc (k:=1) aY (az c g7) c c)<|V c c (aG _) (fun g8=>wv<|cm (az c g8) c)<|p (cZ c c)<|J c<|V c c (aG _) (fun g9=>wv<|ad oz c)<|V c c (aG _) (fun g10=>cv<|bc (k:=1) aY (az c g10) c c)<|V c c (aG _) (fun g11=>wv<|ad mt c)<|V c c (aG _) (fun g12=>cv<|bc (k:=0) aY (az c g12) c c)<|V c c (aG _) (fun g13=>wv<|jr (az c g13)<|az c g13)<|p (cZ c c)<|J c<|V c c (aG _) (fun g14=>wv<|ad sJ c)<|V c c (aG _) (fun g15=>cv<|bc (k:=1) aY (az c g15) c c)<|V c c (aG _) (fun g16=>wv<|ag c)<|V c c (aG _) (fun g17=>wv<|v_le (az c g17)<|az c g17)<|p (cZ c c)<|O c<|ar c H (fun k18 H19=>M<|O c<|ah<|Y ⟨false,c,H19⟩) fun k18 H19=>M<|p (ad iI c)<|bg (bc (k:=1) aY c c c) c<|p (bM c c)<|O c<|ar c H19 (fun k20 H21=>M<|p (ad qt c)<|bg (bc (k:=1) aY c c c) c<|p (bM c c)<|O c<|ah<|Y ⟨(a0.fEnd == 0),c,H21⟩) fun k20 H21=>am<|M<|p (ad iI c)<|bg (bc (k:=1) aY c c c) c<|p (ad sJ c)<|bg (bc (k:=1) aY c c c) c<|p (jr c c)<|J c<|V c c (aw _) (fun g22=>wv<|ad qt c)<|V c c (aw _) (fun g23=>cv<|bc (k:=1) aY (az c g23) c c)<|V c c (aw _) (fun g24=>wv<|bM (az c g24) c)<|V c c (aw _) (fun g25=>wv<|ag<|az c g25)<|V c c (dN _ _) (fun g26=>wv<|ad qt c)<|V c c (dN _ _) (fun g27=>cv<|bc (k:=1) aY (az c g27) c c)<|V c c (dN _ _) (fun g28=>wv<|ad iI c)<|V c c (dN _ _) (fun g29=>cv<|bc (k:=1) aY (az c g29) c c)<|V c c (dN _ _) (fun g30=>wv<|jr (az c g30)<|az c g30)<|V c c (aw _) (fun g31=>wv<|cZ (az c g31)<|aL c<|wu g31)<|p (bN c c)<|O c<|ah<|Y ⟨((decide (a0.fEffect ≥ a0.fBegin)) && ((a0.fEnd == 0) || (decide (a0.fEnd ≥ a0.fEffect)))),c,H21⟩
def fe (a0:aA) (a1:aE) (a2:Int):Bool:=(bif (((((decide (a0.fCore < 0)) || (decide (a0.fCore ≥ a1.fCores))) || (decide (a0.fEnv < 0))) || (decide (a0.fEnv ≥ a1.fEnvs))) || (decide (a0.fBegin ≤ a2))) then (false) else (bif (a0.fEffect == 0) then ((a0.fEnd == 0)) else (((decide (a0.fEffect ≥ a0.fBegin)) && ((a0.fEnd == 0) || (decide (a0.fEnd ≥ a0.fEffect)))))))
theorem pr_hist_one (a0:aA) (a1:aE) (a2:Int) {K:Bool→Hp→Prop} {h:Hp} (k:K (fe a0 a1 a2) h):sh_hist_one a0 a1 a2 K h:=(jN (K:=K) (fun k=>k) (jN (K:=K) (fun k=>k) (fun k=>k))) k
theorem ct_hist_one (a0:aA) (a1:aE) (a2:Int) (h:Hp):Ct Tryz.prog n_hist_one #[(.agg (aA.C a0).toArray),(.agg (aE.C a1).toArray),(.int .i64 a2)] h fun v h'=>∃ r,v = ay r∧(r = fe a0 a1 a2∧h' = h):=sim_hist_one a0 a1 a2 (pr_hist_one a0 a1 a2 ⟨rfl,rfl⟩)
def uJ (a0:aA) (K:Bool→Hp→Prop):Hp→Prop:=K (decide (a0.fEffect > 0))
theorem sim_hist_Order_c1 (a0:aA) {K:Bool→Hp→Prop} {h:Hp} (H:uJ a0 K h):Ct Tryz.prog mB #[(.agg (aA.C a0).toArray)] h fun v h'=>∃ r,v = ay r∧K r h':=au [(.agg (aA.C a0).toArray)] Tryz.func86 c c c fun _=>M<|aa<|cD (l:=aA.C a0) c c c fun b1=>O c<|M<|p (ad iI c)<|bg (bc (k:=0) aY c c c) c<|p (pY c c)<|O c<|ah<|Y ⟨decide (a0.fEffect > 0),c,H⟩
def uP (a0:aA):Bool:=((decide (a0.fEffect > 0)))
theorem pr_hist_Order_c1 (a0:aA) {K:Bool→Hp→Prop} {h:Hp} (k:K (uP a0) h):uJ a0 K h:=(fun k=>k) k
theorem ct_hist_Order_c1 (a0:aA) (h:Hp):Ct Tryz.prog mB #[(.agg (aA.C a0).toArray)] h fun v h'=>∃ r,v = ay r∧(r = uP a0∧h' = h):=sim_hist_Order_c1 a0 (pr_hist_Order_c1 a0 ⟨rfl,rfl⟩)
def uK (a0:Int) (K:Bool→Hp→Prop):Hp→Prop:=K (a0 != a0)
theorem sim_cmp_isNaN_int (a0:Int) {K:Bool→Hp→Prop} {h:Hp} (H:uK a0 K h):Ct Tryz.prog n_cmp_isNaN_int #[(.int .i64 a0)] h fun v h'=>∃ r,v = ay r∧K r h':=au [(.int .i64 a0)] Tryz.func144 c c c fun _=>M<|O c<|M<|J c<|J c<|p (nF c c)<|O c<|ah<|Y ⟨(a0 != a0),c,H⟩
def dT (a0:Int):Bool:=((a0 != a0))
theorem pr_cmp_isNaN_int (a0:Int) {K:Bool→Hp→Prop} {h:Hp} (k:K (dT a0) h):uK a0 K h:=(fun k=>k) k
theorem vd (a0:Int) (h:Hp):Ct Tryz.prog n_cmp_isNaN_int #[(.int .i64 a0)] h fun v h'=>∃ r,v = ay r∧(r = dT a0∧h' = h):=sim_cmp_isNaN_int a0 (pr_cmp_isNaN_int a0 ⟨rfl,rfl⟩)
def sk (a0:Int) (a1:Int) (K:Int→Hp→Prop):Hp→Prop:=br (dT a0) ( br (dT a1) ( K 0) ( K (-1))) ( br (dT a1) ( K 1) ( br (decide (a0 < a1)) ( K (-1)) ( br (decide (a0 > a1)) ( K 1) ( K 0))))
theorem sim_cmp_Compare_int (a0:Int) (a1:Int) {K:Int→Hp→Prop} {h:Hp} (H:sk a0 a1 K h):Ct Tryz.prog tP #[(.int .i64 a0),(.int .i64 a1)] h fun v h'=>∃ r,v = dW r∧K r h':=au [(.int .i64 a0),(.int .i64 a1)] Tryz.func89 c c c fun _=>M<|O c<|M<|J c<|aa<|cA (vs:=[(.int .i64 a0)]) (bq<|vd a0 _) en_144 c c<|O c<|M<|J c<|aa<|cA (vs:=[(.int .i64 a1)]) (bq<|vd a1 _) en_144 c c<|O c<|aj<|M<|J c<|ac<|ar c H (fun k1 H2=>aj<|M<|J c<|ac<|ar c H2 (fun k3 H4=>M<|O c<|ah<|Y ⟨0,c,H4⟩) fun k3 H4=>am<|M<|O c<|ah<|Y ⟨(-1),c,H4⟩) fun k1 H2=>am<|aj<|M<|J c<|ac<|ar c H2 (fun k5 H6=>M<|O c<|ah<|Y ⟨1,c,H6⟩) fun k5 H6=>am<|aj<|M<|J c<|J c<|p (cm c c)<|ac<|ar c H6 (fun k7 H8=>M<|O c<|ah<|Y ⟨(-1),c,H8⟩) fun k7 H8=>am<|aj<|M<|J c<|J c<|p (pY c c)<|ac<|ar c H8 (fun k9 H10=>M<|O c<|ah<|Y ⟨1,c,H10⟩) fun k9 H10=>am<|M<|O c<|ah<|Y ⟨0,c,H10⟩
def fy (a0:Int) (a1:Int):Int:=(bif (dT a0) then (bif (dT a1) then (0) else ((-1))) else (bif (dT a1) then (1) else (bif (decide (a0 < a1)) then ((-1)) else (bif (decide (a0 > a1)) then (1) else (0)))))
theorem pr_cmp_Compare_int (a0:Int) (a1:Int) {K:Int→Hp→Prop} {h:Hp} (k:K (fy a0 a1) h):sk a0 a1 K h:=(jN (K:=K) (jN (K:=K) (fun k=>k) (fun k=>k)) (jN (K:=K) (fun k=>k) (jN (K:=K) (fun k=>k) (jN (K:=K) (fun k=>k) (fun k=>k))))) k
theorem ct_cmp_Compare_int (a0:Int) (a1:Int) (h:Hp):Ct Tryz.prog tP #[(.int .i64 a0),(.int .i64 a1)] h fun v h'=>∃ r,v = dW r∧(r = fy a0 a1∧h' = h):=sim_cmp_Compare_int a0 a1 (pr_cmp_Compare_int a0 a1 ⟨rfl,rfl⟩)
def sh_judge_user (a0:aA) (K:Bool→Hp→Prop):Hp→Prop:=K (dk ((aB a0.fCall).1))
theorem sim_judge_user (a0:aA) {K:Bool→Hp→Prop} {h:Hp} (H:sh_judge_user a0 K h):Ct Tryz.prog n_judge_user #[(.agg (aA.C a0).toArray)] h fun v h'=>∃ r,v = ay r∧K r h':=au [(.agg (aA.C a0).toArray)] Tryz.func131 c c c fun _=>M<|aa<|cD (l:=aA.C a0) c c c fun b1=>O c<|M<|p (ad mq c)<|bg (bw (k:=0) eQ c c c c) c<|aa<|cA (vs:=[(.agg (ae.C a0.fCall).toArray)]) (bq<|jL a0.fCall _) en_53 c c<|J c<|p (ai c c)<|p (ai c c)<|p (aq c)<|O c<|M<|J c<|aa<|cA (vs:=[(.int .i64 ((aB a0.fCall).1))]) (bq<|rG (aB a0.fCall).1 _) en_54 c c<|O c<|ah<|Y ⟨dk (aB a0.fCall).1,c,H⟩
def pN (a0:aA):Bool:=((dk ((aB a0.fCall).1)))
theorem pr_judge_user (a0:aA) {K:Bool→Hp→Prop} {h:Hp} (k:K (pN a0) h):sh_judge_user a0 K h:=(fun k=>k) k
theorem ct_judge_user (a0:aA) (h:Hp):Ct Tryz.prog n_judge_user #[(.agg (aA.C a0).toArray)] h fun v h'=>∃ r,v = ay r∧(r = pN a0∧h' = h):=sim_judge_user a0 (pr_judge_user a0 ⟨rfl,rfl⟩)
end Go.Proofs.YtmggcfijlpldpaaGreatDoor
namespace Go.Proofs.YtmggcfijlpldpaaGreatDoor
open Go Mb
set_option linter.unusedVariables false
def tg (a0:Ptr) (K:(Int × Bool)→Hp→Prop):Hp→Prop:=br a0.isNone ( K (0,false)) ( nn a0 fun q8=>ld (q8.1,q8.2 + 0) cS fun x10=>cl Tryz.prog jG [(sv x10),(.int .i64 0)] dW fun r11=>br (decide (r11 < 0)) ( K (0,false)) ( ld (q8.1,q8.2 + 0) cS fun x17=>ix x17 r11 fun q19=>st (q19.1,q19.2 + Int.toNat r11 * 1) [.int .i64 1]<|K (r11,true)))
theorem sim_pool_Pool_Take (a0:Ptr) {K:(Int × Bool)→Hp→Prop} {h:Hp} (H:tg a0 K h):Ct Tryz.prog jf #[(pv a0)] h fun v h'=>∃ r,v = bH r∧K r h':=au [(pv a0)] Tryz.func166 c c c fun _=>M<|p (aq c)<|O c<|aj<|M<|J c<|p (cg Tryz.underlying146 c)<|ac<|ar c H (fun k1 H2=>M<|p (aq c)<|O c<|ah<|bt (bJ c (bT c)<|bT c) ⟨(0,false),c,H2⟩) fun k1 H2=>am<|M<|J c<|bC H2 fun q8 e3 H4=>p (aI<|aL c<|an e3)<|p (ad nv c)<|aa<|aT H4 sc_40 c (fun _=>c) c fun x10 H5=>aa<|Z H5 en_193 fun r11 _ H6=>O c<|aj<|M<|J c<|p (cm c c)<|ac<|ar c H6 (fun k7 H8=>M<|p (aq c)<|O c<|ah<|bt (bJ c (bT c)<|bT c) ⟨(0,false),c,H8⟩) fun k7 H8=>am<|M<|J (aL c<|an e3)<|p (aI c)<|p (ad nv c)<|aa<|aT H8 sc_40 c (fun _=>c) c fun x17 H9=>J c<|ce H9 fun q19 e10 h11 H12=>p (bo ig (aL c<|aZ e10) c h11)<|aa<|dp qq c c c c c H12 fun _ H13=>ac<|M<|J c<|p (aq c)<|O c<|ah<|bt (bJ c (bT c)<|bT c) ⟨(r11,true),c,H13⟩
def th (a0:Ptr) (a1:Int) (K:Int→Hp→Prop):Hp→Prop:=br (!(a0.isNone || (decide (a1 < 0)))) ( nn a0 fun q14=>ld (q14.1,q14.2 + 0) cS fun x16=>br (decide (a1 ≥ (x16.len:Int))) ( K 0) ( ld (q14.1,q14.2 + 0) cS fun x23=>ix x23 a1 fun q25=>ld (q25.1,q25.2 + Int.toNat a1 * 1) (cI .i64) fun x26=>K x26)) ( K 0)
theorem sim_pool_Pool_Refs (a0:Ptr) (a1:Int) {K:Int→Hp→Prop} {h:Hp} (H:th a0 a1 K h):Ct Tryz.prog jg #[(pv a0),(.int .i64 a1)] h fun v h'=>∃ r,v = dW r∧K r h':=au [(pv a0),(.int .i64 a1)] Tryz.func194 c c c fun _=>M<|O c<|aj<|M<|J c<|p (cg Tryz.underlying146 c)<|J c<|V c c (aG _) (fun g1=>wv<|ag c)<|V c c (aG _) (fun g2=>wv<|cm (az c g2) c)<|p (cZ c c)<|J c<|V c c (aG _) (fun g3=>wv<|ag c)<|V c c (aG _) (fun g4=>wv<|ag c)<|bP H (fun k6 H7=>bC H7 fun q14 e8 H9=>F (D<|bY k6)<|R (aI<|aL (az c k6)<|an e8)<|F (D<|bY k6)<|R (ad nv c)<|F (D<|bY k6)<|aT H9 sc_40 c (fun _=>c) c fun x16 H10=>F (D<|bY k6)<|R (dz c Tryz.underlying40 c)<|F (D<|bY k6)<|R (jr (az c k6) c)<|p (ao c (bY k6) c)<|ac<|ar c H10 (fun k11 H12=>M<|O c<|ah<|Y ⟨0,c,H12⟩) fun k11 H12=>am<|M<|J (aL c<|an e8)<|p (aI c)<|p (ad nv c)<|aa<|aT H12 sc_40 c (fun _=>c) c fun x23 H13=>J c<|ce H13 fun q25 e14 h15 H16=>p (bo ig (aL c<|aZ e14) c h15)<|aa<|aT H16 aY c (fun _=>c) c fun x26 H17=>O c<|ah<|Y ⟨x26,c,H17⟩) fun k6 H7=>W (bV<|bE k6)<|W (bV<|bE k6)<|W (bV<|bE k6)<|W (bV<|bE k6)<|W (bV<|bE k6)<|p (aR c (bE k6) c)<|ac<|lY c c<|M<|O c<|ah<|Y ⟨0,c,H7⟩
def ti (a0:Ptr) (a1:Int) (K:Bool→Hp→Prop):Hp→Prop:=cl Tryz.prog jg [(pv a0),(.int .i64 a1)] dW fun r8=>br ((r8 == 0) || (decide (r8 ≥ 7))) ( K false) ( nn a0 fun q16=>ld (q16.1,q16.2 + 0) cS fun x18=>ix x18 a1 fun q20=>ld (q20.1,q20.2 + Int.toNat a1 * 1) (cI .i64) fun x21=>st (q20.1,q20.2 + Int.toNat a1 * 1) [.int .i64 (IntKind.i64.wrap (x21 + 1))]<|K true)
theorem sim_pool_Pool_Hold (a0:Ptr) (a1:Int) {K:Bool→Hp→Prop} {h:Hp} (H:ti a0 a1 K h):Ct Tryz.prog lA #[(pv a0),(.int .i64 a1)] h fun v h'=>∃ r,v = ay r∧K r h':=au [(pv a0),(.int .i64 a1)] Tryz.func168 c c c fun _=>M<|O c<|aj<|M<|J c<|J c<|aa<|Z H en_194 fun r8 _ H1=>O c<|M<|J c<|p (bM c c)<|J c<|V c c (aG _) (fun g2=>wv<|ag c)<|V c c (aG _) (fun g3=>wv<|jr (az c g3) c)<|p (cZ c c)<|ac<|ar c H1 (fun k4 H5=>M<|O c<|ah<|Y ⟨false,c,H5⟩) fun k4 H5=>am<|M<|J c<|bC H5 fun q16 e6 H7=>p (aI<|aL c<|an e6)<|p (ad nv c)<|aa<|aT H7 sc_40 c (fun _=>c) c fun x18 H8=>J c<|ce H8 fun q20 e9 h10 H11=>p (bo ig (aL c<|aZ e9) c h10)<|aa<|aT H11 aY c (fun _=>c) c fun x21 H12=>p (bp c c)<|p (bo ig (aL c<|aZ e9) c h10)<|aa<|dp qq c c c c c H12 fun _ H13=>ac<|M<|O c<|ah<|Y ⟨true,c,H13⟩
def uE (a0:Ptr) (a1:Int) (K:(Int × Bool)→Hp→Prop):Hp→Prop:=cl Tryz.prog jg [(pv a0),(.int .i64 a1)] dW fun r8=>br (r8 == 0) ( K (0,false)) ( nn a0 fun q11=>ld (q11.1,q11.2 + 0) cS fun x13=>ix x13 a1 fun q15=>ld (q15.1,q15.2 + Int.toNat a1 * 1) (cI .i64) fun x16=>st (q15.1,q15.2 + Int.toNat a1 * 1) [.int .i64 (IntKind.i64.wrap (x16 - 1))]<|ld (q11.1,q11.2 + 0) cS fun x22=>ix x22 a1 fun q24=>ld (q24.1,q24.2 + Int.toNat a1 * 1) (cI .i64) fun x25=>K (x25,true))
theorem sim_pool_Pool_Let (a0:Ptr) (a1:Int) {K:(Int × Bool)→Hp→Prop} {h:Hp} (H:uE a0 a1 K h):Ct Tryz.prog mz #[(pv a0),(.int .i64 a1)] h fun v h'=>∃ r,v = bH r∧K r h':=au [(pv a0),(.int .i64 a1)] Tryz.func172 c c c fun _=>M<|p (aq c)<|O c<|aj<|M<|J c<|J c<|aa<|Z H en_194 fun r8 _ H1=>p (bM c c)<|ac<|ar c H1 (fun k2 H3=>M<|p (aq c)<|O c<|ah<|bt (bJ c (bT c)<|bT c) ⟨(0,false),c,H3⟩) fun k2 H3=>am<|M<|J c<|bC H3 fun q11 e4 H5=>p (aI<|aL c<|an e4)<|p (ad nv c)<|aa<|aT H5 sc_40 c (fun _=>c) c fun x13 H6=>J c<|ce H6 fun q15 e7 h8 H9=>p (bo ig (aL c<|aZ e7) c h8)<|aa<|aT H9 aY c (fun _=>c) c fun x16 H10=>p (us c c)<|p (bo ig (aL c<|aZ e7) c h8)<|aa<|dp qq c c c c c H10 fun _ H11=>ac<|M<|J (aL c<|an e4)<|p (aI c)<|p (ad nv c)<|aa<|aT H11 sc_40 c (fun _=>c) c fun x22 H12=>J c<|ce H12 fun q24 e13 h14 H15=>p (bo ig (aL c<|aZ e13) c h14)<|aa<|aT H15 aY c (fun _=>c) c fun x25 H16=>p (aq c)<|O c<|ah<|bt (bJ c (bT c)<|bT c) ⟨(x25,true),c,H16⟩
def sh_pool_New (a0:Int) (K:Ptr→Hp→Prop):Hp→Prop:=br ((decide (a0 < 1)) || (decide (a0 > 16))) ( K none) ( hpv Tryz.prog (Instr.makeSlice dB (.int .i64 a0) (.int .i64 a0)) cr fun (v10:Sl)=>nw pZ (nA.C (⟨v10⟩:nA)) fun b12=>K (some (b12,0)))
theorem sim_pool_New (a0:Int) {K:Ptr→Hp→Prop} {h:Hp} (H:sh_pool_New a0 K h):Ct Tryz.prog wi #[(.int .i64 a0)] h fun v h'=>∃ r,v = rJ r∧K r h':=au [(.int .i64 a0)] Tryz.func94 c c c fun _=>M<|O c<|aj<|M<|J c<|p (cm c c)<|J c<|V c c (aG _) (fun g1=>wv<|ag c)<|V c c (aG _) (fun g2=>wv<|pY (az c g2) c)<|p (cZ c c)<|ac<|ar c H (fun k3 H4=>M<|O c<|ah<|Y ⟨none,c,H4⟩) fun k3 H4=>am<|M<|J c<|aa<|aO H4 (jt c c) c fun v10 _ H5=>p (aW c<|build_207_0 v10)<|aa<|gP c c c H5 fun b12 _ H6=>O c<|ah<|Y ⟨some (b12,0),c,H6⟩
def nX (K:Sl→Hp→Prop) (x11:Sl) (Rec7:(Sl × Int)→Hp→Prop) (s6:Sl × Int):Hp→Prop:=br (decide (s6.2 < (x11.len:Int))) ( ix x11 s6.2 fun q16=>ld (q16.1,q16.2 + Int.toNat s6.2 * 1) (cI .i64) fun x17=>br (x17 == 0) ( hpv Tryz.prog (Instr.buildSlice dB 1 #[(0,(.int .i64 s6.2))]) cr fun (v22:Sl)=>hpv Tryz.prog (Builtin.append_ #[dB,dB] dB #[(sv s6.1),(sv v22)]) cr fun (v23:Sl)=>Rec7 (v23,(IntKind.i64.wrap (s6.2 + 1)))) ( Rec7 (s6.1,(IntKind.i64.wrap (s6.2 + 1))))) ( K s6.1)
def tj (a0:Ptr) (K:Sl→Hp→Prop):Hp→Prop:=br a0.isNone ( K (⟨none,0,0,none⟩:Sl)) ( nn a0 fun q9=>ld (q9.1,q9.2 + 0) cS fun x11=>Lp (nX K x11) ((⟨none,0,0,none⟩:Sl),0))
theorem sim_pool_Pool_Free (a0:Ptr) {K:Sl→Hp→Prop} {h:Hp} (H:tj a0 K h):Ct Tryz.prog lB #[(pv a0)] h fun v h'=>∃ r,v = cr r∧K r h':=au [(pv a0)] Tryz.func92 c c c fun _=>M<|O c<|aj<|M<|J c<|p (cg Tryz.underlying146 c)<|ac<|ar c H (fun k1 H2=>M<|O c<|ah<|Y ⟨(⟨none,0,0,none⟩:Sl),c,H2⟩) fun k1 H2=>am<|M<|O c<|aj<|M<|J c<|bC H2 fun q9 e3 H4=>p (aI<|aL c<|an e3)<|p (ad nv c)<|aa<|aT H4 sc_40 c (fun _=>c) c fun x11 H5=>p (dz c Tryz.underlying40 c)<|J c<|ac<|av<|bA (step:=nX K x11) (fun s6=>[(3,(sv s6.1)),(11,(sv x11)),(12,(.int .i64 (x11.len:Int))),(13,(.int .i64 s6.2))]) (fun s6=>[]) H5 (.cons c<|.cons c<|.cons c<|.cons c<|.nil _) .slnil fun Rec7 s6 _ H8=>M<|p (cm c c)<|ac<|aj<|ar c H8 (fun k9 H10=>am<|aj<|av<|M<|J c<|ce H10 fun q16 e11 h12 H13=>p (bo ig (aL c<|aZ e11) c h12)<|aa<|aT H13 aY c (fun _=>c) c fun x17 H14=>p (aq c)<|O c<|M<|J c<|p (bM c c)<|ac<|ar c H14 (fun k15 H16=>ap<|J c<|J c<|aa<|aO H16 (bm (vs:=[(.int .i64 s6.2)]) c) c fun v22 _ H17=>aa<|aO H17 (dA c c) c fun v23 _ H18=>O c<|ap<|p (bp c c)<|J c<|ac<|cF (v23,(IntKind.i64.wrap (s6.2 + 1))) H18 (.cons c<|.cons c<|.cons c<|.cons c<|.nil _) .slnil) fun k15 H16=>am<|ap<|p (bp c c)<|J c<|ac<|cF (s6.1,(IntKind.i64.wrap (s6.2 + 1))) H16 (.cons c<|.cons c<|.cons c<|.cons c<|.nil _) .slnil) fun k9 H10=>bh<|M<|J c<|O c<|ah<|Y ⟨s6.1,c,H10⟩
def nY (K:Int→Hp→Prop) (r7:Sl) (Rec3:(Int × Int)→Hp→Prop) (s2:Int × Int):Hp→Prop:=br (decide (s2.2 < (r7.len:Int))) ( ix r7 s2.2 fun q11=>ld (q11.1,q11.2 + Int.toNat s2.2 * 1) (cI .i64) fun x12=>gd (0 ≤ x12)<|Rec3 ((ior .u64 s2.1 (IntKind.u64.wrap (1 * 2 ^ (min (Int.toNat x12) (IntKind.bits .u64))))),(IntKind.i64.wrap (s2.2 + 1)))) ( K s2.1)
def tk (a0:Ptr) (K:Int→Hp→Prop):Hp→Prop:=cl Tryz.prog lB [(pv a0)] cr fun r7=>Lp (nY K r7) (0,0)
theorem sim_pool_Pool_Bits (a0:Ptr) {K:Int→Hp→Prop} {h:Hp} (H:tk a0 K h):Ct Tryz.prog px #[(pv a0)] h fun v h'=>∃ r,v = gw r∧K r h':=au [(pv a0)] Tryz.func210 c c c fun _=>M<|O c<|M<|O c<|aj<|M<|J c<|aa<|Z H en_92 fun r7 _ H1=>p (dz c Tryz.underlying40 c)<|J c<|ac<|av<|bA (step:=nY K r7) (fun s2=>[(3,(.int .u64 s2.1)),(7,(sv r7)),(8,(.int .i64 (r7.len:Int))),(9,(.int .i64 s2.2))]) (fun s2=>[]) H1 (.cons c<|.cons c<|.cons c<|.cons c<|.nil _) .slnil fun Rec3 s2 _ H4=>M<|p (cm c c)<|ac<|aj<|ar c H4 (fun k5 H6=>am<|aj<|av<|M<|ce H6 fun q11 e7 h8 H9=>p (bo ig (aL c<|aZ e7) c h8)<|aa<|aT H9 aY c (fun _=>c) c fun x12 H10=>O c<|ap<|J c<|J c<|iP H10 fun z11 H12=>p (v_shl c c z11)<|p (v_ior c c)<|O c<|ap<|p (bp c c)<|J c<|ac<|cF ((ior .u64 s2.1 (IntKind.u64.wrap (1 * 2 ^ (min (Int.toNat x12) (IntKind.bits .u64))))),(IntKind.i64.wrap (s2.2 + 1))) H12 (.cons c<|.cons c<|.cons c<|.cons c<|.nil _) .slnil) fun k5 H6=>bh<|M<|J c<|O c<|ah<|Y ⟨s2.1,c,H6⟩
end Go.Proofs.YtmggcfijlpldpaaGreatDoor
