/- Part of the proof of: The law KernBuffers returns true for every input, and leaves its arguments as they were. -/
import Derived.Test.YtjcamacgclipiaaGreatDoorKernBuffers09
set_option linter.all false
set_option maxRecDepth 20000
set_option maxHeartbeats 4000000
namespace Go.Proofs.YtjcamacgclipiaaGreatDoor
open Go.Proofs.Tryz
open Go.IntKind (i64 u64)
open _root_.Int (toNat_natCast)
open _root_.List (getElem_mem length_replicate length_set replicate set_set)
open _root_.Nat (zero_le)
section
open Go Mb
attribute [local irreducible] bM gR il Val Tx Tu Tn RV Res br nn ix gd ld st nw cl clv dL Lp ct
def plain_New_l1 (a0:ao) (K:kT Ptr) (b43:Nat) (Rec23:kT Int) (s22:Int):hT:=br (decide (s22 < a0.fHa)) ( dL ( ld (b43,4) cS fun x52=>cl prog kU [] gF fun r53=>hpv prog (Instr.buildSlice dK 1 #[(0,(pv r53))]) mV fun (v54:Sl)=>hpv prog (Builtin.append_ #[dK,dK] dK #[(sv x52),(sv v54)]) mV fun (v55:Sl)=>st (b43,4) [sv v55]<|Rec23 (i64.wrap (s22 + 1))) ( cl prog kU [] gF fun r53=>ld (b43,4) cS fun x52=>hpv prog (Instr.buildSlice dK 1 #[(0,(pv r53))]) mV fun (v54:Sl)=>hpv prog (Builtin.append_ #[dK,dK] dK #[(sv x52),(sv v54)]) mV fun (v55:Sl)=>st (b43,4) [sv v55]<|Rec23 (i64.wrap (s22 + 1)))) ( K (some (b43,0)))
def sh_plain_New (a0:ao) (K:kT Ptr):hT:=br ((((((decide (a0.fRa < 1)) || (decide (a0.fRa > 8))) || (decide (a0.fHa < 1))) || (decide (a0.fHa > 4))) || (decide (a0.fUa < 1))) || (decide (a0.fUa > 16))) ( K none) ( cl prog wK [(.int .i64 a0.fUa)] tY fun r35=>cl prog xW [(.int .i64 a0.fUa)] sN fun r38=>cl prog ya [(.int .i64 a0.fHa)] sP fun r41=>nw bz (fw.C (⟨a0,r35,(⟨none,0,0,none⟩:Sl),r38,r41⟩:fw)) fun b43=>Lp (plain_New_l1 a0 K b43) 0)
theorem sim_plain_New (a0:ao) {K:kT Ptr} {h:Hp} (H:sh_plain_New a0 K h):cl prog nC [(.agg (ao.C a0).toArray)] cM K h:=have z0:LH (σ:=Int) 5 1 (fun s22 r=>(46,(.int .i64 s22))::r) [46] [3,45] (fun _ l=>l):=⟨⟩; have z1:OH 6 [0,4,8,12] (.b 4 5 [22,26,30,32,36,42] .e [17,26,30,32,36,42] .e) []:=⟨⟩; have z2:OH 3 [0,4,8,16,20,28,32,14,26,38,40,46,48] .e []:=⟨⟩; J [] func50 H
def rR (a0:Ptr) (a1:Int) (K:kT Bool):hT:=br (!(a0.isNone || (decide (a1 < 0)))) ( nn a0 fun q14=>ld (q14.1,q14.2 + 0 + 1) (cI .i64) fun x17=>K (decide (a1 >= x17))) ( K true)
theorem sim_plain_Kernel_off (a0:Ptr) (a1:Int) {K:kT Bool} {h:Hp} (H:rR a0 a1 K h):cl prog jx [(pv a0),(.int .i64 a1)] ai K h:=J [] func111 H
def rS (a0:Ptr) (a1:Int) (a2:Int) (K:kT (ak × Bool)):hT:=cl prog jx [(pv a0),(.int .i64 a1)] ai fun r10=>br r10 ( K ((⟨0,0,0⟩:ak),false)) ( nn a0 fun q13=>ld (q13.1,q13.2 + 4) cS fun x15=>ix x15 a1 fun q17=>ld (q17.1,q17.2 + Int.toNat a1 * 1) cP fun x18=>cl prog dR [(pv x18),(.int .i64 a2)] bA fun r20=>K (r20.1,r20.2))
theorem sim_plain_Kernel_Pte (a0:Ptr) (a1:Int) (a2:Int) {K:kT (ak × Bool)} {h:Hp} (H:rS a0 a1 a2 K h):cl prog eR [(pv a0),(.int .i64 a1),(.int .i64 a2)] bA K h:=J [] func61 H
def rU (a0:Ptr) (a1:Int) (a2:Int) (K:kT (aH × Bool)):hT:=br a0.isNone ( K ((⟨0,0,0,0⟩:aH),false)) ( nn a0 fun q12=>ld (q12.1,q12.2 + 6) cP fun x14=>cl prog dm [(pv x14),(.int .i64 a1),(.int .i64 a2)] bL fun r17=>K (r17.1,r17.2))
theorem sim_plain_Kernel_Cap (a0:Ptr) (a1:Int) (a2:Int) {K:kT (aH × Bool)} {h:Hp} (H:rU a0 a1 a2 K h):cl prog gw [(pv a0),(.int .i64 a1),(.int .i64 a2)] bL K h:=J [] func60 H
def cY (K:kT (ad × Bool)) (s9:Bool × Int):hT:=K ((⟨0,s9.2⟩:ad),s9.1)
def ph (a0:Ptr) (a1:Int) (a2:aa) (K:kT (ad × Bool)):hT:=cl prog mZ [(.agg (aa.C a2).toArray),(.int .i64 2),(.int .i64 16)] aR fun r20=>br ((a0.isNone || (!r20.2)) || (!(aQ ((am a2).1)))) ( K ((⟨0,0⟩:ad),false)) ( ct (cY K)<|br (((am a2).1) == 20) ( nn a0 fun q40=>ld (q40.1,q40.2 + 3) cP fun x42=>cl prog gx [(pv x42),(.int .i64 a1),(.int .i64 r20.1)] aU fun r45=>cY K (r45.2,r45.1)) ( br (((am a2).1) == 21) ( nn a0 fun q51=>ld (q51.1,q51.2 + 3) cP fun x53=>cl prog eH [(pv x53),(.int .i64 a1),(.int .i64 r20.1),(.int .u64 a2.e3)] ai fun r58=>cY K (r58,0)) ( br (((am a2).1) == 22) ( nn a0 fun q63=>ld (q63.1,q63.2 + 3) cP fun x65=>cl prog qt [(pv x65),(.int .i64 a1),(.int .i64 r20.1),(.int .u64 a2.e3),(.int .u64 a2.e4)] aU fun r72=>cY K (r72.2,r72.1)) ( br (((am a2).1) == 23) ( nn a0 fun q79=>ld (q79.1,q79.2 + 3) cP fun x81=>cl prog qu [(pv x81),(.int .i64 a1),(.int .i64 r20.1),(.int .u64 a2.e3)] aU fun r86=>cY K (r86.2,r86.1)) ( cY K (r20.2,0))))))
theorem xq (a0:Ptr) (a1:Int) (a2:aa) {K:kT (ad × Bool)} {h:Hp} (H:ph a0 a1 a2 K h):cl prog dS [(pv a0),(.int .i64 a1),(.agg (aa.C a2).toArray)] aD K h:=have z0:LH (σ:=Bool × Int) 100015 2 (fun s9 r=>(11,(.bool s9.1))::(12,(.int .u64 s9.2))::r) [11,12] [6] (fun _ l=>l):=⟨⟩; have z1:OH 10 [0,16,20,24,28,4,8,13,34,36] .e []:=⟨⟩; have z2:OH 12 [0,16,20,24,28,32,36,4,8,13,42,44,48,52,56,60] .e []:=⟨⟩; have z3:OH 14 [0,16,20,24,28,4,8,13,34,36,40,44,48,52] .e []:=⟨⟩; J [15] func121 H
def pf (a0:Ptr) (a1:Int) (a2:Int) (K:kT Int):hT:=nn a0 fun q13=>ld (q13.1,q13.2 + 6) cP fun x15=>cl prog dm [(pv x15),(.int .i64 a1),(.int .i64 a2)] bL fun r18=>br r18.2 ( K 4) ( ld (q13.1,q13.2 + 5) cP fun x26=>cl prog iI [(pv x26)] aR fun r27=>br (!r27.2) ( K 6) ( ld (q13.1,q13.2 + 3) cP fun x35=>cl prog tG [(pv x35),(.int .i64 r27.1)] ai fun r37=>ld (q13.1,q13.2 + 6) cP fun x41=>cl prog iL [(pv x41),(.int .i64 a1),(.int .i64 a2),(.int .i64 r27.1)] aC fun r45=>K r45))
theorem xp (a0:Ptr) (a1:Int) (a2:Int) {K:kT Int} {h:Hp} (H:pf a0 a1 a2 K h):cl prog kX [(pv a0),(.int .i64 a1),(.int .i64 a2)] aC K h:=J [] func130 H
def nZ (a0:Ptr) (a1:Int) (a2:Int) (a3:Int) (a4:Int) (a5:Int) (K:kT Int):hT:=nn a0 fun q17=>ld (q17.1,q17.2 + 6) cP fun x19=>cl prog gA [(pv x19),(.int .i64 a1),(.int .i64 a2),(.int .i64 a3),(.int .i64 a4),(.int .i64 a5)] aC fun r25=>br (r25 != 0) ( K r25) ( ld (q17.1,q17.2 + 6) cP fun x33=>cl prog dm [(pv x33),(.int .i64 a3),(.int .i64 a4)] bL fun r36=>ld (q17.1,q17.2 + 5) cP fun x42=>cl prog lI [(pv x42),(.int .i64 r36.1.fEa)] ai fun r45=>br (!r45) ( ld (q17.1,q17.2 + 6) cP fun x50=>cl prog lU [(pv x50),(.int .i64 a3),(.int .i64 a4)] cC fun r53=>K 6) ( K 0))
theorem wb (a0:Ptr) (a1:Int) (a2:Int) (a3:Int) (a4:Int) (a5:Int) {K:kT Int} {h:Hp} (H:nZ a0 a1 a2 a3 a4 a5 K h):cl prog gH [(pv a0),(.int .i64 a1),(.int .i64 a2),(.int .i64 a3),(.int .i64 a4),(.int .i64 a5)] aC K h:=have z0:OH 5 [0,4,8,16,20,13,26,28] .e []:=⟨⟩; J [] func131 H
def ox (q21:Nat × Nat) (r26:aH × Bool) (Rec12:kT Int) (s11:Int) (x66:au) (r77:Sl) (Rec27:kT Int) (s26:Int):hT:=br (decide (s26 < (r77.len:Int))) ( ix r77 s26 fun q81=>ld (q81.1,q81.2 + Int.toNat s26 * 1) (cI .i64) fun x82=>ld (q21.1,q21.2 + 4) cS fun x86=>ix x86 x66.fBa fun q89=>ld (q89.1,q89.2 + Int.toNat x66.fBa * 1) cP fun x90=>cl prog hO [(pv x90),(.int .i64 x82)] iC fun r92=>Rec27 (i64.wrap (s26 + 1))) ( ld (q21.1,q21.2 + 5) cP fun x97=>cl prog mP [(pv x97),(.int .i64 r26.1.fEa)] aR fun r100=>Rec12 (i64.wrap (s11 + 1)))
def jq (K:kT ad) (q21:Nat × Nat) (r26:aH × Bool) (s7:Sl) (Rec12:kT Int) (s11:Int):hT:=br (decide (s11 < (s7.len:Int))) ( ix s7 s11 fun q65=>ld (q65.1,q65.2 + Int.toNat s11 * 2) au.C fun x66=>ld (q21.1,q21.2 + 4) cS fun x70=>ix x70 x66.fBa fun q73=>ld (q73.1,q73.2 + Int.toNat x66.fBa * 1) cP fun x74=>cl prog lH [(pv x74),(.int .i64 x66.fDa)] av fun r77=>Lp (ox q21 r26 Rec12 s11 x66 r77) 0) ( K (⟨0,(u64.wrap (s7.len:Int))⟩:ad))
def fR (K:kT ad) (q21:Nat × Nat) (r26:aH × Bool) (r36:Sl × Int) (s7:Sl):hT:=br (r36.2 != 0) ( K (⟨r36.2,0⟩:ad)) ( Lp (jq K q21 r26 s7) 0)
def nY (a0:Ptr) (a1:Int) (a2:Int) (a3:Bool) (K:kT ad):hT:=nn a0 fun q21=>ld (q21.1,q21.2 + 6) cP fun x23=>cl prog dm [(pv x23),(.int .i64 a1),(.int .i64 a2)] bL fun r26=>ld (q21.1,q21.2 + 6) cP fun x33=>cl prog np [(pv x33),(.int .i64 a1),(.int .i64 a2)] cC fun r36=>ct (fR K q21 r26 r36)<|br (a3 && (r36.2 == 0)) ( ld (q21.1,q21.2 + 6) cP fun x48=>cl prog lU [(pv x48),(.int .i64 a1),(.int .i64 a2)] cC fun r51=>hpv prog (Builtin.append_ #[ge,ge] ge #[(sv r36.1),(sv r51.1)]) bS fun (v56:Sl)=>fR K q21 r26 r36 v56) ( fR K q21 r26 r36 r36.1)
theorem wa (a0:Ptr) (a1:Int) (a2:Int) (a3:Bool) {K:kT ad} {h:Hp} (H:nY a0 a1 a2 a3 K h):cl prog kj [(pv a0),(.int .i64 a1),(.int .i64 a2),(.bool a3)] gb K h:=have z0:LH (σ:=Sl) 100006 2 (fun s7 r=>(11,(sv s7))::r) [11] [0,8,9,12] (fun _ l=>l):=⟨⟩; have z1:LH (σ:=Int) 9 2 (fun s11 r=>(63,(.int .i64 s11))::r) [63] [0,8,9,11,61,62] (fun _ l=>l):=⟨⟩; have z2:LH (σ:=Int) 12 3 (fun s26 r=>(79,(.int .i64 s26))::r) [79] [0,8,9,11,16,61,62,63,77,78] (fun _ l=>l):=⟨⟩; have z3:OH 14 [0,4,8,16,20,32,13,24,29,38] .e []:=⟨⟩; have z4:OH 16 [0,4,8,16,20,13,26] .e []:=⟨⟩; have z5:OH 11 [0,4,8,16,20,32,36,48,13,24,29,42,44] .e []:=⟨⟩; J [6] func132 H
def qT (a0:Ptr) (a1:Int) (a2:Int) (a3:Int) (a4:Int) (K:kT Int):hT:=nn a0 fun q17=>ld (q17.1,q17.2 + 6) cP fun x19=>cl prog dm [(pv x19),(.int .i64 a1),(.int .i64 a3)] bL fun r22=>br (!r22.2) ( K 3) ( ld (q17.1,q17.2 + 4) cS fun x31=>ix x31 a1 fun q33=>ld (q33.1,q33.2 + Int.toNat a1 * 1) cP fun x34=>cl prog dR [(pv x34),(.int .i64 a2)] bA fun r36=>br r36.2 ( K 4) ( br (!(ap a4 r22.1.fCa)) ( K 5) ( ld (q17.1,q17.2 + 4) cS fun x48=>ix x48 a1 fun q50=>ld (q50.1,q50.2 + Int.toNat a1 * 1) cP fun x51=>cl prog dl [(pv x51),(.int .i64 a2),(.agg (ak.C (⟨r22.1.fEa,a3,a4⟩:ak)).toArray)] aC fun r58=>K r58)))
theorem sim_plain_Kernel_maps (a0:Ptr) (a1:Int) (a2:Int) (a3:Int) (a4:Int) {K:kT Int} {h:Hp} (H:qT a0 a1 a2 a3 a4 K h):cl prog mj [(pv a0),(.int .i64 a1),(.int .i64 a2),(.int .i64 a3),(.int .i64 a4)] aC K h:=have z0:OH 9 [0,4,8,16,28,32,36,40,44,48,13,20,25,54,56] .e []:=⟨⟩; J [] func133 H
def nz (a0:Ptr) (a1:Int) (a2:Int) (a3:Int) (K:kT Int):hT:=nn a0 fun q15=>ld (q15.1,q15.2 + 4) cS fun x17=>ix x17 a1 fun q19=>ld (q19.1,q19.2 + Int.toNat a1 * 1) cP fun x20=>cl prog dR [(pv x20),(.int .i64 a2)] bA fun r22=>br (!r22.2) ( K 3) ( ld (q15.1,q15.2 + 6) cP fun x31=>cl prog dm [(pv x31),(.int .i64 a1),(.int .i64 r22.1.fDa)] bL fun r35=>br (!(ap a3 r35.1.fCa)) ( K 5) ( ld (q15.1,q15.2 + 4) cS fun x46=>ix x46 a1 fun q48=>ld (q48.1,q48.2 + Int.toNat a1 * 1) cP fun x49=>cl prog kh [(pv x49),(.int .i64 a2),(.int .i64 a3)] aC fun r52=>K r52))
theorem vh (a0:Ptr) (a1:Int) (a2:Int) (a3:Int) {K:kT Int} {h:Hp} (H:nz a0 a1 a2 a3 K h):cl prog jw [(pv a0),(.int .i64 a1),(.int .i64 a2),(.int .i64 a3)] aC K h:=have z0:OH 4 [0,4,8,16,20,24,13] (.b 7 11 [32,36,40,46,50,52] .e [30,32,36,40,50,52] .e) []:=⟨⟩; J [] func135 H
def pd (a0:Ptr) (a1:Int) (a2:aa) (K:kT (ad × Bool)):hT:=nn a0 fun q14=>ld (q14.1,q14.2 + 6) cP fun x16=>cl prog dm [(pv x16),(.int .i64 a1),(.int .i64 (i64.wrap a2.e1))] bL fun r21=>br (!r21.2) ( K ((be 3).1,(be 3).2)) ( br (!(ap 1 r21.1.fCa)) ( K ((be 5).1,(be 5).2)) ( ld (q14.1,q14.2 + 3) cP fun x42=>cl prog gx [(pv x42),(.int .i64 r21.1.fEa),(.int .i64 (i64.wrap a2.e2))] aU fun r48=>br (!(eo (i64.wrap a2.e3) r48.1 a2.e4)) ( K ((⟨0,0⟩:ad),false)) ( K ((⟨0,r48.1⟩:ad),true))))
theorem xo (a0:Ptr) (a1:Int) (a2:aa) {K:kT (ad × Bool)} {h:Hp} (H:pd a0 a1 a2 K h):cl prog kW [(pv a0),(.int .i64 a1),(.agg (aa.C a2).toArray)] aD K h:=have z0:OH 6 [0,4,8,16,20,24,28,32,13,38,40,44,48,52,56] .e []:=⟨⟩; have z1:OH 1 [0,16,20,24,28,4,8,13] (.b 8 12 [36,40,44,50,54,56] .e [34,36,40,44,54,56] .e) []:=⟨⟩; J [] func136 H
def qR (a0:Ptr) (a1:Int) (a2:aa) (K:kT ad):hT:=nn a0 fun q13=>ld (q13.1,q13.2 + 4) cS fun x15=>ix x15 a1 fun q17=>ld (q17.1,q17.2 + Int.toNat a1 * 1) cP fun x18=>cl prog dR [(pv x18),(.int .i64 (i64.wrap a2.e1))] bA fun r22=>br ((!r22.2) || (!(bk r22.1.fCa (i64.wrap a2.e0)))) ( K (⟨7,0⟩:ad)) ( cl prog dS [(.pointer (some ⟨q13.1,q13.2,none⟩)),(.int .i64 r22.1.fEa),(.agg (aa.C a2).toArray)] aD fun r42=>K r42.1)
theorem sim_plain_Kernel_user (a0:Ptr) (a1:Int) (a2:aa) {K:kT ad} {h:Hp} (H:qR a0 a1 a2 K h):cl prog mh [(pv a0),(.int .i64 a1),(.agg (aa.C a2).toArray)] gb K h:=have z0:OH 1 [0,16,28,32,36,4,8,13,20,25] (.b 10 14 [44,48,52,58,62,64] .e [42,44,48,52,62,64] .e) []:=⟨⟩; J [] func137 H
def jr (a1:Int) (a2:aa) (K:kT (ad × Bool)) (q23:Nat × Nat) (s10:Bool × ad):hT:=cl prog kj [(.pointer (some ⟨q23.1,q23.2,none⟩)),(.int .i64 a1),(.int .i64 (i64.wrap a2.e1)),(.bool s10.1)] gb fun r99=>K (r99,true)
def ti (a0:Ptr) (a1:Int) (a2:aa) (K:kT (ad × Bool)):hT:=cl prog jx [(pv a0),(.int .i64 a1)] ai fun r17=>br r17 ( K ((be 10).1,(be 10).2)) ( nn a0 fun q23=>ld (q23.1,q23.2 + 0 + 1) (cI .i64) fun x26=>cl prog fT [(.agg (aa.C a2).toArray),(.int .i64 x26)] aC fun r27=>br (r27 != 0) ( K ((be r27).1,(be r27).2)) ( ct (jr a1 a2 K q23)<|br ((i64.wrap a2.e0) == 1) ( cl prog kX [(.pointer (some ⟨q23.1,q23.2,none⟩)),(.int .i64 a1),(.int .i64 (i64.wrap a2.e1))] aC fun r69=>K ((be r69).1,(be r69).2)) ( br ((i64.wrap a2.e0) == 2) ( cl prog gH [(.pointer (some ⟨q23.1,q23.2,none⟩)),(.int .i64 a1),(.int .i64 (i64.wrap a2.e1)),(.int .i64 a1),(.int .i64 (i64.wrap a2.e2)),(.int .i64 (i64.wrap a2.e3))] aC fun r79=>K ((be r79).1,(be r79).2)) ( br ((i64.wrap a2.e0) == 3) ( cl prog gH [(.pointer (some ⟨q23.1,q23.2,none⟩)),(.int .i64 a1),(.int .i64 (i64.wrap a2.e1)),(.int .i64 (i64.wrap a2.e2)),(.int .i64 (i64.wrap a2.e3)),(.int .i64 (i64.wrap a2.e4))] aC fun r91=>K ((be r91).1,(be r91).2)) ( br ((i64.wrap a2.e0) == 5) ( jr a1 a2 K q23 (true,(⟨0,0⟩:ad))) ( br ((i64.wrap a2.e0) == 4) ( jr a1 a2 K q23 (false,(⟨0,0⟩:ad))) ( br ((i64.wrap a2.e0) == 6) ( cl prog mj [(.pointer (some ⟨q23.1,q23.2,none⟩)),(.int .i64 a1),(.int .i64 (i64.wrap a2.e1)),(.int .i64 (i64.wrap a2.e2)),(.int .i64 (i64.wrap a2.e3))] aC fun r105=>K ((be r105).1,(be r105).2)) ( br ((i64.wrap a2.e0) == 7) ( ld (q23.1,q23.2 + 4) cS fun x113=>ix x113 a1 fun q115=>ld (q115.1,q115.2 + Int.toNat a1 * 1) cP fun x116=>cl prog hO [(pv x116),(.int .i64 (i64.wrap a2.e1))] iC fun r118=>K ((be r118.2).1,(be r118.2).2)) ( br ((i64.wrap a2.e0) == 8) ( cl prog jw [(.pointer (some ⟨q23.1,q23.2,none⟩)),(.int .i64 a1),(.int .i64 (i64.wrap a2.e1)),(.int .i64 (i64.wrap a2.e2))] aC fun r129=>K ((be r129).1,(be r129).2)) ( br ((i64.wrap a2.e0) == 9) ( cl prog kW [(.pointer (some ⟨q23.1,q23.2,none⟩)),(.int .i64 a1),(.agg (aa.C a2).toArray)] aD fun r136=>K (r136.1,r136.2)) ( br ((i64.wrap a2.e0) == 10) ( K ((⟨0,0⟩:ad),true)) ( cl prog mh [(.pointer (some ⟨q23.1,q23.2,none⟩)),(.int .i64 a1),(.agg (aa.C a2).toArray)] gb fun r143=>K (r143,true)))))))))))))
theorem sim_plain_Kernel_Do (a0:Ptr) (a1:Int) (a2:aa) {K:kT (ad × Bool)} {h:Hp} (H:ti a0 a1 a2 K h):cl prog cD [(pv a0),(.int .i64 a1),(.agg (aa.C a2).toArray)] aD K h:=have z0:LH (σ:=Bool × ad) 100023 2 (fun s10 r=>(12,(.bool s10.1))::r) [12] [0,1,6,9] (fun s10 l=>(setB l 0 (ad.C s10.2))):=⟨⟩; have z1:OH 6 [0,4,8,12,16,20,24,28,32,36,40,44] .e []:=⟨⟩; have z2:OH 3 [0,4,8,12,16,21,26,28] .e []:=⟨⟩; J [23] func87 H
def ri (a1:Ptr) (q14:Nat × Nat) (Rec5:kT (Bool × Int)) (s4:Bool × Int) (Rec10:kT (Bool × Int)) (s9:Bool × Int):hT:=br (decide (s9.2 < 8)) ( nn a1 fun q26=>ld (q26.1,q26.2 + 6) cP fun x28=>cl prog dm [(pv x28),(.int .i64 s4.2),(.int .i64 s9.2)] bL fun r31=>ld (q14.1,q14.2 + 6) cP fun x38=>cl prog dm [(pv x38),(.int .i64 s4.2),(.int .i64 s9.2)] bL fun r41=>br ((!r31.2) || r41.2) ( Rec10 (s9.1,(i64.wrap (s9.2 + 1)))) ( br (decide (r31.1.fBa < 0)) ( ld (q14.1,q14.2 + 6) cP fun x55=>cl prog iL [(pv x55),(.int .i64 s4.2),(.int .i64 s9.2),(.int .i64 r31.1.fEa)] aC fun r60=>Rec10 ((s9.1 || (r60 == 0)),(i64.wrap (s9.2 + 1)))) ( ld (q14.1,q14.2 + 6) cP fun x64=>cl prog gA [(pv x64),(.int .i64 r31.1.fBa),(.int .i64 r31.1.fDa),(.int .i64 s4.2),(.int .i64 s9.2),(.int .i64 r31.1.fCa)] aC fun r73=>Rec10 ((s9.1 || (r73 == 0)),(i64.wrap (s9.2 + 1)))))) ( Rec5 (s9.1,(i64.wrap (s4.2 + 1))))
def rj (a1:Ptr) (K:kT Bool) (q14:Nat × Nat) (x16:Sl) (Rec5:kT (Bool × Int)) (s4:Bool × Int):hT:=br (decide (s4.2 < (x16.len:Int))) ( Lp (ri a1 q14 Rec5 s4) (s4.1,0)) ( K s4.1)
def qS (a0:Ptr) (a1:Ptr) (K:kT Bool):hT:=nn a0 fun q14=>ld (q14.1,q14.2 + 4) cS fun x16=>Lp (rj a1 K q14 x16) (false,0)
theorem sim_plain_Kernel_more (a0:Ptr) (a1:Ptr) {K:kT Bool} {h:Hp} (H:qS a0 a1 K h):cl prog mi [(pv a0),(pv a1)] ai K h:=have z0:LH (σ:=Bool × Int) 3 0 (fun s4 r=>(5,(.bool s4.1))::(18,(.int .i64 s4.2))::r) [5,18] [0,1,17] (fun _ l=>l):=⟨⟩; have z1:LH (σ:=Bool × Int) 6 0 (fun s9 r=>(5,(.bool s9.1))::(21,(.int .i64 s9.2))::r) [5,21] [0,1,6,17,18] (fun _ l=>l):=⟨⟩; have z2:OH 13 [0,4,8,16,20,24,28,13,34,36] .e []:=⟨⟩; have z3:OH 14 [0,4,8,16,20,24,28,32,36,40,44,13,50,52] .e []:=⟨⟩; J [] func208 H
def rn (r19:Ptr) (Rec9:kT Int) (s8:Int) (r33:Sl) (Rec16:kT Int) (s15:Int):hT:=br (decide (s15 < (r33.len:Int))) ( ix r33 s15 fun q38=>ld (q38.1,q38.2 + Int.toNat s15 * 1) (cI .u64) fun x39=>nn r19 fun q41=>ld (q41.1,q41.2 + 3) cP fun x43=>cl prog eH [(pv x43),(.int .i64 s8),(.int .i64 s15),(.int .u64 x39)] ai fun r47=>Rec16 (i64.wrap (s15 + 1))) ( nn r19 fun q50=>ld (q50.1,q50.2 + 5) cP fun x52=>cl prog iI [(pv x52)] aR fun r53=>Rec9 (i64.wrap (s8 + 1)))
def rm (r19:Ptr) (Rec34:kT Int) (s33:Int) (r68:Int) (Rec41:kT Int) (s40:Int):hT:=br (decide (s40 < (i64.wrap (r68 - 1)))) ( nn r19 fun q74=>ld (q74.1,q74.2 + 5) cP fun x76=>cl prog lI [(pv x76),(.int .i64 s33)] ai fun r78=>Rec41 (i64.wrap (s40 + 1))) ( br (r68 == 0) ( nn r19 fun q83=>ld (q83.1,q83.2 + 5) cP fun x85=>cl prog mP [(pv x85),(.int .i64 s33)] aR fun r87=>Rec34 (i64.wrap (s33 + 1))) ( Rec34 (i64.wrap (s33 + 1))))
def rl (q16:Nat × Nat) (r19:Ptr) (Rec57:kT Int) (s56:Int) (Rec62:kT Int) (s61:Int):hT:=br (decide (s61 < 8)) ( ld (q16.1,q16.2 + 4) cS fun x104=>ix x104 s56 fun q106=>ld (q106.1,q106.2 + Int.toNat s56 * 1) cP fun x107=>cl prog dR [(pv x107),(.int .i64 s61)] bA fun r109=>br r109.2 ( nn r19 fun q114=>ld (q114.1,q114.2 + 4) cS fun x116=>ix x116 s56 fun q118=>ld (q118.1,q118.2 + Int.toNat s56 * 1) cP fun x119=>cl prog dl [(pv x119),(.int .i64 s61),(.agg (ak.C r109.1).toArray)] aC fun r122=>Rec62 (i64.wrap (s61 + 1))) ( Rec62 (i64.wrap (s61 + 1)))) ( Rec57 (i64.wrap (s56 + 1)))
def kP (K:kT Ptr) (q16:Nat × Nat) (r19:Ptr) (Rec83:kT Unit) (s82:Unit):hT:=cl prog mi [(pv r19),(.pointer (some ⟨q16.1,q16.2,none⟩))] ai fun r127=>br r127 ( Rec83 ()) ( K r19)
def kQ (K:kT Ptr) (q16:Nat × Nat) (r19:Ptr) (x92:Sl) (Rec57:kT Int) (s56:Int):hT:=br (decide (s56 < (x92.len:Int))) ( Lp (rl q16 r19 Rec57 s56) 0) ( Lp (kP K q16 r19) ())
def kR (K:kT Ptr) (q16:Nat × Nat) (r19:Ptr) (x59:Int) (Rec34:kT Int) (s33:Int):hT:=br (decide (s33 < x59)) ( ld (q16.1,q16.2 + 5) cP fun x66=>cl prog iJ [(pv x66),(.int .i64 s33)] cH fun r68=>Lp (rm r19 Rec34 s33 r68) 0) ( ld (q16.1,q16.2 + 4) cS fun x92=>Lp (kQ K q16 r19 x92) 0)
def kS (K:kT Ptr) (q16:Nat × Nat) (r19:Ptr) (x24:Int) (Rec9:kT Int) (s8:Int):hT:=br (decide (s8 < x24)) ( ld (q16.1,q16.2 + 3) cP fun x31=>cl prog rC [(pv x31),(.int .i64 s8)] bi fun r33=>Lp (rn r19 Rec9 s8 r33) 0) ( ld (q16.1,q16.2 + 0 + 2) (cI .i64) fun x59=>Lp (kR K q16 r19 x59) 0)
def qV (a0:Ptr) (K:kT Ptr):hT:=br a0.isNone ( K none) ( nn a0 fun q16=>ld (q16.1,q16.2 + 0) ao.C fun x18=>cl prog nC [(.agg (ao.C x18).toArray)] cM fun r19=>ld (q16.1,q16.2 + 0 + 2) (cI .i64) fun x24=>Lp (kS K q16 r19 x24) 0)
theorem sim_plain_Kernel_Copy (a0:Ptr) {K:kT Ptr} {h:Hp} (H:qV a0 K h):cl prog fL [(pv a0)] cM K h:=have z0:LH (σ:=Int) 5 0 (fun s8 r=>(25,(.int .i64 s8))::r) [25] [0,3,24] (fun _ l=>l):=⟨⟩; have z1:LH (σ:=Int) 8 0 (fun s15 r=>(35,(.int .i64 s15))::r) [35] [0,3,4,24,25,33,34] (fun _ l=>l):=⟨⟩; have z2:LH (σ:=Int) 15 0 (fun s33 r=>(60,(.int .i64 s33))::r) [60] [0,3,59] (fun _ l=>l):=⟨⟩; have z3:LH (σ:=Int) 19 0 (fun s40 r=>(71,(.int .i64 s40))::r) [71] [0,3,7,8,59,60,70] (fun _ l=>l):=⟨⟩; have z4:LH (σ:=Int) 26 0 (fun s56 r=>(94,(.int .i64 s56))::r) [94] [0,3,93] (fun _ l=>l):=⟨⟩; have z5:LH (σ:=Int) 29 0 (fun s61 r=>(97,(.int .i64 s61))::r) [97] [0,3,9,93,94] (fun _ l=>l):=⟨⟩; have z6:OH 33 [0,16,28,32,4,8,13,20,25,38] .e []:=⟨⟩; have z7:LH (σ:=Unit) 36 0 (fun _ r=>r) [] [0,3] (fun _ l=>l):=⟨⟩; J [] func184 H
def qU (a0:Ptr) (K:kT Sl):hT:=br a0.isNone ( K (⟨none,0,0,none⟩:Sl)) ( nn a0 fun q6=>ld (q6.1,q6.2 + 5) cP fun x8=>cl prog lJ [(pv x8)] av fun r9=>K r9)
theorem sim_plain_Kernel_Free (a0:Ptr) {K:kT Sl} {h:Hp} (H:qU a0 K h):cl prog mo [(pv a0)] av K h:=J [] func62 H
def rT (a0:Ptr) (a1:Int) (a2:aa) (K:kT Value):hT:=br a0.isNone ( cl prog jZ [(.int .i64 10)] gK fun r11=>K r11) ( cl prog fL [(pv a0)] cM fun r14=>cl prog cD [(pv r14),(.int .i64 a1),(.agg (aa.C a2).toArray)] aD fun r17=>br (!r17.2) ( K Value.nilIface) ( cl prog jZ [(.int .i64 r17.1.fWa)] gK fun r26=>cl prog n_trap_In [(.int .i64 a1),(.agg (aa.C a2).toArray),r26] gK fun r27=>K r27))
theorem sim_plain_Kernel_Err (a0:Ptr) (a1:Int) (a2:aa) {K:kT Value} {h:Hp} (H:rT a0 a1 a2 K h):cl prog ng [(pv a0),(.int .i64 a1),(.agg (aa.C a2).toArray)] gK K h:=have z0:OH 6 [0,4,8,12,18,22,24] .e []:=⟨⟩; have z1:OH 3 [0,8,12] (.b 1 8 [] (.b 4 8 [20,24,28,34,38,40] .e [18,20,24,28,38,40] .e) [6,18,20,24,28,38,40] .e) []:=⟨⟩; J [] func145 H
end
section
open Go Mb
structure PZ where
 b:Nat
 pm:Ptr
 ts:Sl
 tp:List Ptr
 pp:Ptr
 pc:Ptr
abbrev qj (s:dc) (z:PZ):List Value:=[.int .i64 s.fRa,.int .i64 s.fHa,.int .i64 s.fUa,pv z.pm,sv z.ts,pv z.pp,pv z.pc]
abbrev vQ (T:Nat) (s:Sl) (xs:List Ptr):As:=vec T 1 cP s xs
abbrev plainL (z:PZ) (k:PK):List As:=[blk z.b bz (qj k.s z),gC z.pm k.m,vQ dk z.ts z.tp,all bV z.tp k.tabs,eW z.pp k.pool,bD z.pc k.caps]
def aO (x:Ptr) (k:PK):As:=fun h=>∃ z:PZ,(x = some (z.b,0)/\z.tp.length = k.tabs.length/\PK.Ok k)/\ah (plainL z k) h
theorem eL {x:Ptr} {k:PK} {l:List As} {h:Hp} (s0:ah (aO x k::l) h):∃ z:PZ,x = some (z.b,0)/\z.tp.length = k.tabs.length/\PK.Ok k/\z.ts.len = k.tabs.length/\ah (blk z.b bz (qj k.s z)::gC z.pm k.m::vQ dk z.ts z.tp::all bV z.tp k.tabs::eW z.pp k.pool::bD z.pc k.caps::l) h:=by
 obtain ⟨z,⟨hx,h1,ok⟩,st⟩:=op_ s0;exact ⟨z,hx,h1,ok,(aX (j:=2) st rfl).1.trans h1,st⟩
theorem bW {z:PZ} {k:PK} {l:List As} {h:Hp} (h1:z.tp.length = k.tabs.length) (ok:PK.Ok k) (st:ah (blk z.b bz (qj k.s z)::gC z.pm k.m::vQ dk z.ts z.tp::all bV z.tp k.tabs::eW z.pp k.pool::bD z.pc k.caps::l) h):ah (aO (some (z.b,0)) k::l) h :=
 cl_ (m:=fun z:PZ=>plainL z k) z ⟨rfl,h1,ok⟩ st
theorem fu (x:Ptr):(cP x).length = 1:=rfl
theorem cP_one (x:Ptr):ce (cP x) = true:=rfl
theorem sp_plain_off (x:Ptr) (k:PK) (e:Int):Sp prog jx [pv x,.int .i64 e] ai [aO x k] (fun r=>pa_ (r = PK.off k e) [aO x k]):=by
 intro h s0;obtain ⟨z,rfl,h1,ok,hl,st⟩:=eL s0;refine sim_plain_Kernel_off _ _ ?_;unfold rR;refine ar (fun c=>?_) (fun c=>?_)
 ·have c':¬ e < 0:=by simpa using c
  refine bn (aJ k.s.fHa st (i:=0) rfl rfl rfl ?_);exact aw (by simp [PK.off,c']) s0
 ·have c':e < 0:=by simpa using c
  exact aw (by simp [PK.off,c']) s0
theorem off_nat {k:PK} (ok:PK.Ok k) {e:Int} (h:PK.off k e = false):∃ n:Nat,e = n/\n < k.tabs.length:=by
 unfold PK.off at h;simp at h;have:=ok.tl;exact ⟨e.toNat,by omega,by omega⟩
theorem su (x:Ptr) (k:PK) (e p:Int):Sp prog eR [pv x,.int .i64 e,.int .i64 p] bA [aO x k] (fun r=>pa_ (r = PK.pte k e p) [aO x k]):=by
 intro h s0;refine sim_plain_Kernel_Pte _ _ _ ?_;unfold rS;refine aW (sp_plain_off x k e) (i:=0) rfl s0 fun r h1 hr s1=>?_;subst hr;refine ar (fun c=>?_) (fun c=>?_)
 ·exact aw (by unfold PK.pte; rw [if_pos c]) s1
 ·obtain ⟨z,rfl,h1,ok,hl,st⟩:=eL s1;obtain ⟨n,rfl,hn⟩:=off_nat ok c;have hn':n < z.tp.length:=by omega
  refine bn (aJ z.ts st (i:=0) rfl rfl rfl ?_);refine bE st (j:=2) rfl (by omega) (by omega) fun q hq=>?_;refine bK (j:=2) (i:=n) (k:=0) z.tp[n] fu st rfl hq (by simp) (al hn') (by simp) ?_;have s2:=gJ (al hn') (al hn) (aA [3] st rfl);refine aW (nu z.tp[n] k.tabs[n] p) (i:=0) rfl s2 fun r h3 hr s3=>?_;subst hr;have s4:=rv (al hn') (al hn) h1 s3;refine aw ?_ (bW h1 ok (aA [1,1,1] s4 rfl));unfold PK.pte;rw [if_neg (by rw [c]; exact Bool.false_ne_true),(tab_of ok hn).1]
theorem xk (x:Ptr) (k:PK) (e s:Int):Sp prog gw [pv x,.int .i64 e,.int .i64 s] bL [aO x k] (fun r=>pa_ (r = fAa.at_ k.caps e s) [aO x k]):=by
 intro h s0;obtain ⟨z,rfl,h1,ok,hl,st⟩:=eL s0;refine sim_plain_Kernel_Cap _ _ _ ?_;unfold rU;refine bB rfl (bn (aJ z.pc st (i:=0) rfl rfl rfl ?_));refine aW (jn z.pc k.caps e s) (i:=5) rfl st fun r h2 hr s2=>?_;subst hr;exact aw rfl (bW h1 ok s2)
theorem kind_user {c:bv} (h:aQ (am c).1 = true):(am c).1 = 20\/(am c).1 = 21\/(am c).1 = 22\/(am c).1 = 23:=by
 unfold aQ at h; simp at h; omega
theorem nU (x:Ptr) (k:PK) (f:Int) (c:bv):Sp prog dS [pv x,.int .i64 f,.agg c.C.toArray] aD [aO x k] (fun r=>pa_ (r = (PK.touch k f c).1) [aO x (PK.touch k f c).2]):=by
 intro h s0;obtain ⟨z,rfl,h1,ok,hl,st⟩:=eL s0;have ok2:=ok_touch ok f c;refine xq _ _ _ ?_;unfold ph;refine ud (qJ c 2 16) st fun r h2 hr s2=>?_;subst hr;refine ar (fun d=>?_) (fun d=>?_)
 ·have d':(Word.arg c 2 16).2 = false\/aQ (am c).1 = false:=by simpa using d
  have e1:PK.touch k f c = ((⟨0,0⟩,false),k):=if_pos d';rw [e1];exact aw rfl (bW h1 ok s2)
 ·have d':¬ ((Word.arg c 2 16).2 = false\/aQ (am c).1 = false):=by simp at d; simp [d]
  have hu:=kind_user (by simp at d'; exact d'.2);unfold cY;refine ar (fun d1=>?_) (fun d1=>?_)
  ·have d1':(am c).1 = 20:=by simpa using d1
   have e1:PK.touch k f c = ((⟨0,(Mem.load k.m f (Word.arg c 2 16).1).1⟩,(Mem.load k.m f (Word.arg c 2 16).1).2),k):=by unfold PK.touch; rw [if_neg d',if_pos d1']
   rw [e1];refine bn (aJ z.pm s2 (i:=0) rfl rfl rfl ?_);refine aW (qK z.pm k.m f _) (i:=1) rfl s2 fun r h3 hr s3=>?_;subst hr;exact aw rfl (bW h1 ok s3)
  ·have d1':¬ (am c).1 = 20:=by simpa using d1
   refine ar (fun d2=>?_) (fun d2=>?_)
   ·have d2':(am c).1 = 21:=by simpa using d2
    have e1:PK.touch k f c = ((⟨0,0⟩,(Mem.store k.m f (Word.arg c 2 16).1 c.e3).1),{ k with m:=(Mem.store k.m f (Word.arg c 2 16).1 c.e3).2 }):=by unfold PK.touch; rw [if_neg d',if_neg d1',if_pos d2']
    rw [e1] at ok2 ⊢;refine bn (aJ z.pm s2 (i:=0) rfl rfl rfl ?_);refine aW (lE z.pm k.m f _ _) (i:=1) rfl s2 fun r h3 hr s3=>?_;subst hr;exact aw rfl (bW h1 ok2 s3)
   ·have d2':¬ (am c).1 = 21:=by simpa using d2
    refine ar (fun d3=>?_) (fun d3=>?_)
    ·have d3':(am c).1 = 22:=by simpa using d3
     have e1:PK.touch k f c = ((⟨0,(Mem.cas k.m f (Word.arg c 2 16).1 c.e3 c.e4).1.1⟩,(Mem.cas k.m f (Word.arg c 2 16).1 c.e3 c.e4).1.2),{ k with m:=(Mem.cas k.m f (Word.arg c 2 16).1 c.e3 c.e4).2 }):=by unfold PK.touch; rw [if_neg d',if_neg d1',if_neg d2',if_pos d3']
     rw [e1] at ok2 ⊢;refine bn (aJ z.pm s2 (i:=0) rfl rfl rfl ?_);refine aW (sp_mem_Cas z.pm k.m f _ _ _) (i:=1) rfl s2 fun r h3 hr s3=>?_;subst hr;exact aw rfl (bW h1 ok2 s3)
    ·have d3':¬ (am c).1 = 22:=by simpa using d3
     have e1:PK.touch k f c = ((⟨0,(Mem.add k.m f (Word.arg c 2 16).1 c.e3).1.1⟩,(Mem.add k.m f (Word.arg c 2 16).1 c.e3).1.2),{ k with m:=(Mem.add k.m f (Word.arg c 2 16).1 c.e3).2 }):=by unfold PK.touch; rw [if_neg d',if_neg d1',if_neg d2',if_neg d3']
     rw [e1] at ok2 ⊢;refine cg (by simp; omega) ?_;refine bn (aJ z.pm s2 (i:=0) rfl rfl rfl ?_);refine aW (sp_mem_Add z.pm k.m f _ _) (i:=1) rfl s2 fun r h3 hr s3=>?_;subst hr;exact aw rfl (bW h1 ok2 s3)
theorem sp_plain_alloc (x:Ptr) (k:PK) (e s:Int):Sp prog kX [pv x,.int .i64 e,.int .i64 s] aC [aO x k] (fun r=>pa_ (r = (PK.alloc k e s).1) [aO x (PK.alloc k e s).2]):=by
 intro h s0;obtain ⟨z,rfl,h1,ok,hl,st⟩:=eL s0;have ok2:=ok_alloc ok e s;refine xp _ _ _ ?_;unfold pf;refine bn (aJ z.pc st (i:=0) rfl rfl rfl ?_);refine aW (jn z.pc k.caps e s) (i:=5) rfl st fun r h2 hr s2=>?_;subst hr;refine ar (fun d=>?_) (fun d=>?_)
 ·have e1:PK.alloc k e s = (4,k):=if_pos d;rw [e1]; exact aw rfl (bW h1 ok s2)
 ·have d':¬ (fAa.at_ k.caps e s).2 = true:=by rw [d]; exact Bool.false_ne_true
  refine aJ z.pp s2 (i:=0) rfl rfl rfl ?_;refine aW (xi z.pp k.pool) (i:=4) rfl s2 fun r h3 hr s3=>?_;subst hr;refine ar (fun d2=>?_) (fun d2=>?_)
  ·have d2':(Pool.take k.pool).2.1 = false:=by simpa using d2
   have e1:PK.alloc k e s = (6,k):=by unfold PK.alloc; rw [if_neg d',if_pos d2']
   have e2:(Pool.take k.pool).2.2 = k.pool:=by
    unfold Pool.take at d2' ⊢; split
    ·rfl
    ·rename_i hh; rw [if_neg hh] at d2'; cases d2'
   rw [e1];rw [e2] at s3;exact aw rfl (bW h1 ok s3)
  ·have d2':¬ (Pool.take k.pool).2.1 = false:=by simpa using d2
   have e1:PK.alloc k e s = ((fAa.root k.caps e s (Pool.take k.pool).1).1,{ k with pool:=(Pool.take k.pool).2.2,m:=(Mem.zero k.m (Pool.take k.pool).1).2,caps:=(fAa.root k.caps e s (Pool.take k.pool).1).2 }):=by unfold PK.alloc; rw [if_neg d',if_neg d2']
   rw [e1] at ok2 ⊢;refine aJ z.pm s3 (i:=0) rfl rfl rfl ?_;refine aW (sp_mem_Zero z.pm k.m _) (i:=1) rfl s3 fun r h4 hr s4=>?_;refine aJ z.pc s4 (i:=0) rfl rfl rfl ?_;refine aW (xl z.pc k.caps e s _) (i:=5) rfl s4 fun r h5 hr s5=>?_;subst hr;exact aw rfl (bW h1 ok2 s5)
theorem derive_no {t:fAa.T} {e src to dst r:Int} (h:(fAa.derive t e src to dst r).1 ≠ 0):(fAa.derive t e src to dst r).2 = t:=by
 unfold fAa.derive at h ⊢
 repeat' split
 all_goals first | rfl | simp_all
theorem hold_no {p:List Int} {i:Int} (h:(Pool.hold p i).1 = false):(Pool.hold p i).2 = p:=by
 unfold Pool.hold at h ⊢;split
 ·rfl
 ·rename_i hh; rw [if_neg hh] at h; cases h
theorem revoke_no {t:fAa.T} {e s:Int} (h:(fAa.revoke t e s).1.2 ≠ 0):(fAa.revoke t e s).2 = t/\(fAa.revoke t e s).1.1 = []:=by
 unfold fAa.revoke at h ⊢;split
 ·exact ⟨rfl,rfl⟩
 ·rename_i hh; rw [if_neg hh] at h; exact absurd rfl h
theorem sp_plain_derive (x:Ptr) (k:PK) (e src to dst r:Int):Sp prog gH [pv x,.int .i64 e,.int .i64 src,.int .i64 to,.int .i64 dst,.int .i64 r] aC [aO x k] (fun v=>pa_ (v = (PK.derive k e src to dst r).1) [aO x (PK.derive k e src to dst r).2]):=by
 intro h s0;obtain ⟨z,rfl,h1,ok,hl,st⟩:=eL s0;have ok2:=ok_derive ok e src to dst r;refine wb _ _ _ _ _ _ ?_;unfold nZ;refine bn (aJ z.pc st (i:=0) rfl rfl rfl ?_);refine aW (tg z.pc k.caps e src to dst r) (i:=5) rfl st fun v h2 hr s2=>?_;subst hr;refine ar (fun d=>?_) (fun d=>?_)
 ·have d':(fAa.derive k.caps e src to dst r).1 ≠ 0:=by simpa using d
  have e1:PK.derive k e src to dst r = ((fAa.derive k.caps e src to dst r).1,k):=if_pos d';rw [e1];rw [derive_no d'] at s2;exact aw rfl (bW h1 ok s2)
 ·have d':¬ (fAa.derive k.caps e src to dst r).1 ≠ 0:=by simpa using d
  refine aJ z.pc s2 (i:=0) rfl rfl rfl ?_;refine aW (jn z.pc _ to dst) (i:=5) rfl s2 fun v h3 hr s3=>?_;subst hr;refine aJ z.pp s3 (i:=0) rfl rfl rfl ?_;refine aW (sp_pool_Hold z.pp k.pool _) (i:=4) rfl s3 fun v h4 hr s4=>?_;subst hr;refine ar (fun d2=>?_) (fun d2=>?_)
  ·have d2':(Pool.hold k.pool (fAa.at_ (fAa.derive k.caps e src to dst r).2 to dst).1.fEa).1 = false:=by simpa using d2
   have e1:PK.derive k e src to dst r = (6,{ k with caps:=(fAa.drop (fAa.derive k.caps e src to dst r).2 to dst).2 }):=by unfold PK.derive; rw [if_neg d',if_pos d2']
   rw [e1] at ok2 ⊢;rw [hold_no d2'] at s4;refine aJ z.pc s4 (i:=0) rfl rfl rfl ?_;refine cl_p (sp_caps_Drop z.pc _ to dst) (i:=5) rfl s4 fun v h5 hr s5=>?_;exact aw rfl (bW h1 ok2 (aT (l:=[vP v.1 _]) s5))
  ·have d2':¬ (Pool.hold k.pool (fAa.at_ (fAa.derive k.caps e src to dst r).2 to dst).1.fEa).1 = false:=by simpa using d2
   have e1:PK.derive k e src to dst r = (0,{ k with caps:=(fAa.derive k.caps e src to dst r).2,pool:=(Pool.hold k.pool (fAa.at_ (fAa.derive k.caps e src to dst r).2 to dst).1.fEa).2 }):=by unfold PK.derive; rw [if_neg d',if_neg d2']
   rw [e1] at ok2 ⊢;exact aw rfl (bW h1 ok2 s4)
end
section
open Go Mb
theorem gone_app (f:Int):∀ (l:List ba) (k:PK) (p:ba),PK.gone k f (l++[p]) = PK.gone (PK.gone k f l) f [p]
 | [],_,_=>rfl
 | _::l,_,p=>gone_app f l _ p
theorem gone_s (f:Int):∀ (l:List ba) (k:PK),(PK.gone k f l).s = k.s/\(PK.gone k f l).m = k.m/\(PK.gone k f l).caps = k.caps/\(PK.gone k f l).tabs.length = k.tabs.length
 | [],_=>⟨rfl,rfl,rfl,rfl⟩
 | p::l,k=>by
  obtain ⟨h1,h2,h3,h4⟩:=gone_s f l { k with tabs:=k.tabs.set p.fBa.toNat (PK.unmap (PK.tab k p.fBa) p.fDa),pool:=(Pool.lets k.pool f).2.2 };rw [PK.gone];exact ⟨h1,h2,h3,by rw [h4]; simp⟩
theorem unmaps_app:∀ (l:List Int) (ps:List Pte) (i:Int),PK.unmaps ps (l++[i]) = (Table.remove (PK.unmaps ps l) i).2
 | [],_,_=>rfl
 | j::l,ps,i=>by rw [List.cons_append,PK.unmaps,PK.unmaps,unmaps_app l]
theorem revoke_loop {z:PZ} {k:PK} {l:List ba} {s7:Sl} {h:Hp} {K:bY->Hp->Prop} (c:Cap × Bool) (ok:PK.Ok k) (h1:z.tp.length = k.tabs.length) (hl:∀ p ∈ l,fAa.has k.caps p.fBa p.fDa = true) (hb:l.length <= 1000)
  (s0:ah (vP s7 l::plainL z k) h) (kk:∀ h',ah [aO (some (z.b,0)) (PK.gone k c.1.fEa l)] h'->K ⟨0,u64.wrap l.length⟩ h'):Lp (jq K (z.b,0) c s7) 0 h:=by
 have hsl:=(aX (j:=0) s0 rfl).1;have hts:=(aX (j:=3) s0 rfl).1;refine Lp.intro (fun (i:Int) h=>∃ n:Nat,i = n/\n <= l.length/\ah (vP s7 l::plainL z (PK.gone k c.1.fEa (l.take n))) h) (fun (i:Int) _=>l.length - i.toNat) ⟨0,rfl,zero_le _,s0⟩ ?_;rintro i h ⟨n,rfl,hn,s1⟩;unfold jq;refine ar (fun d=>?_) (fun d=>?_)
 ·have hlt:n < l.length:=by rw [hsl] at d; simpa using d
  have hw:i64.wrap ((n:Int) + 1) = ((n + 1:Nat):Int):=by rw [aE (by omega) (by omega)]; rfl
  have okn:=ok_gone (l.take n) ok c.1.fEa;obtain ⟨g1,g2,g3,g4⟩:=gone_s c.1.fEa (l.take n) k;have ht:l.take (n + 1) = l.take n++[l[n]]:=by simp
  have step:PK.gone k c.1.fEa (l.take (n + 1)) = { PK.gone k c.1.fEa (l.take n) with tabs:=(PK.gone k c.1.fEa (l.take n)).tabs.set l[n].fBa.toNat (PK.unmap (PK.tab (PK.gone k c.1.fEa (l.take n)) l[n].fBa) l[n].fDa),pool:=(Pool.lets (PK.gone k c.1.fEa (l.take n)).pool c.1.fEa).2.2 }:=by
   rw [ht,gone_app]; rfl
  generalize hk:PK.gone k c.1.fEa (l.take n) = kn at *
  obtain ⟨a,b,ea,eb,ha,hb'⟩:=fAa.has_nat (hl _ (getElem_mem hlt));have ha':a < kn.tabs.length:=by have:=ok.tl; have:=ok.cl; omega
  have hap:a < z.tp.length:=by omega
  refine bE s1 (j:=0) rfl (by omega) (by omega) fun q hq=>?_;refine bK (j:=0) (i:=n) (k:=0) l[n] wF s1 rfl hq (by simp) (al hlt) (by simp) ?_;refine aJ z.ts s1 (i:=1) rfl rfl rfl ?_;refine bE s1 (j:=3) rfl (by omega) (by omega) fun q2 hq2=>?_;refine bK (j:=3) (i:=a) (k:=0) z.tp[a] fu s1 rfl hq2 (by rw [ea]; simp) (al hap) (by simp) ?_;have s2:=gJ (al hap) (al ha') (aA [4] s1 rfl);refine sM (sp_table_By z.tp[a] kn.tabs[a] l[n].fDa) (i:=0) rfl s2 fun r77 h3 s3=>?_;have hpl:=(aX (j:=0) s3 rfl).1;have hp8:(Table.by_ kn.tabs[a] l[n].fDa).length <= 8:=by have:=by_len l[n].fDa kn.tabs[a] 0; have:=(okn.tr _ (getElem_mem ha')).1; unfold Table.by_; omega
  refine Lp.intro (fun (i:Int) h=>∃ m:Nat,i = m/\m <= (Table.by_ kn.tabs[a] l[n].fDa).length/\ah [vI r77 (Table.by_ kn.tabs[a] l[n].fDa),bV z.tp[a] (PK.unmaps kn.tabs[a] ((Table.by_ kn.tabs[a] l[n].fDa).take m)),but bV z.tp kn.tabs a,vP s7 l,blk z.b bz (qj kn.s z),gC z.pm kn.m,vQ dk z.ts z.tp,eW z.pp kn.pool,bD z.pc kn.caps] h) (fun (i:Int) _=>(Table.by_ kn.tabs[a] l[n].fDa).length - i.toNat) ⟨0,rfl,zero_le _,s3⟩ ?_;rintro i h ⟨m,rfl,hm,s4⟩;unfold ox;refine ar (fun d2=>?_) (fun d2=>?_)
  ·have hlt2:m < (Table.by_ kn.tabs[a] l[n].fDa).length:=by rw [hpl] at d2; simpa using d2
   have hw2:i64.wrap ((m:Int) + 1) = ((m + 1:Nat):Int):=by rw [aE (by omega) (by omega)]; rfl
   refine bE s4 (j:=0) rfl (by omega) (by omega) fun q3 hq3=>?_;refine bK (j:=0) (i:=m) (k:=0) (Table.by_ kn.tabs[a] l[n].fDa)[m] (bd _) s4 rfl hq3 (by simp) (al hlt2) (by simp) ?_;refine aJ z.ts s4 (i:=4) rfl rfl rfl ?_;refine bE s4 (j:=6) rfl (by omega) (by omega) fun q4 hq4=>?_;refine bK (j:=6) (i:=a) (k:=0) z.tp[a] fu s4 rfl hq4 (by rw [ea]; simp) (al hap) (by simp) ?_;refine aW (sp_table_Remove z.tp[a] _ _) (i:=1) rfl s4 fun r h5 hr s5=>?_;rw [hw2];refine ⟨⟨m + 1,rfl,hlt2,?_⟩,by simp; omega⟩;have ht2:(Table.by_ kn.tabs[a] l[n].fDa).take (m + 1) = (Table.by_ kn.tabs[a] l[n].fDa).take m++[(Table.by_ kn.tabs[a] l[n].fDa)[m]]:=by simp
   rw [ht2,unmaps_app];exact s5
  ·have:m = (Table.by_ kn.tabs[a] l[n].fDa).length:=by rw [hpl] at d2; simp at d2; omega
   subst this;rw [List.take_length] at s4;have s5:=vF (al hap) ha' (by omega) (aT (l:=[vI r77 (Table.by_ kn.tabs[a] l[n].fDa)]) s4);refine aJ z.pp s5 (i:=2) rfl rfl rfl ?_;refine aW (sp_pool_Let z.pp kn.pool c.1.fEa) (i:=5) rfl s5 fun r h6 hr s6=>?_;rw [hw];refine ⟨⟨n + 1,rfl,hlt,?_⟩,by simp; omega⟩;rw [step,ea];have e1:PK.tab kn (a:Int) = kn.tabs[a]:=(tab_of okn ha').1;rw [e1];exact aA [1,1,1,1] s6 rfl
 ·have:n = l.length:=by rw [hsl] at d; simp at d; omega
  subst this;rw [List.take_length] at s1;rw [hsl];obtain ⟨g1,g2,g3,g4⟩:=gone_s c.1.fEa l k;exact kk h (bW (by omega) (ok_gone l ok _) (aT (l:=[vP s7 l]) s1))
theorem sp_plain_revoke (x:Ptr) (k:PK) (e s:Int) (w:Bool):Sp prog kj [pv x,.int .i64 e,.int .i64 s,.bool w] gb [aO x k] (fun r=>pa_ (r = (PK.revoke k e s w).1) [aO x (PK.revoke k e s w).2]):=by
 intro h s0;obtain ⟨z,rfl,h1,ok,hl,st⟩:=eL s0;have o1:=fAa.ok_revoke ok.tree e s;have f1:=fAa.fine_revoke ok.tree ok.fine e s;have len1:(fAa.revoke k.caps e s).1.1.length <= 32/\∀ p ∈ (fAa.revoke k.caps e s).1.1,fAa.has k.caps p.fBa p.fDa = true:=by
  unfold fAa.revoke; split
  ·exact ⟨by simp,fun p hp=>by cases hp⟩
  ·have:=all_len (fun _ _ c=>fAa.under k.caps c ⟨e,s⟩) k.caps 0 ok.tree.row;have:=ok.tree.len;exact ⟨by show (fAa.below k.caps e s).length <= 32; unfold fAa.below; omega,fun p hp=>((fAa.mem_below ok.tree).1 hp).1⟩
 have len2:(fAa.drop (fAa.revoke k.caps e s).2 e s).1.1.length <= 32/\∀ p ∈ (fAa.drop (fAa.revoke k.caps e s).2 e s).1.1,fAa.has k.caps p.fBa p.fDa = true:=by
  unfold fAa.drop; split
  ·exact ⟨by simp,fun p hp=>by cases hp⟩
  ·have:=all_len (fun a b c=>au.eqb ⟨a,b⟩ ⟨e,s⟩ || fAa.under (fAa.revoke k.caps e s).2 c ⟨e,s⟩) (fAa.revoke k.caps e s).2 0 o1.row;have:=o1.len;refine ⟨by show (fAa.own (fAa.revoke k.caps e s).2 e s).length <= 32; unfold fAa.own; omega,fun p hp=>?_⟩;have:=((fAa.mem_own o1).1 hp).1;unfold fAa.has at this ⊢;rw [fAa.revoke_len] at this;exact this
 refine wa _ _ _ _ ?_;unfold nY;refine bn (aJ z.pc st (i:=0) rfl rfl rfl ?_);refine aW (jn z.pc k.caps e s) (i:=5) rfl st fun c h2 hc s2=>?_;subst hc;refine aJ z.pc s2 (i:=0) rfl rfl rfl ?_;refine cl_p (sp_caps_Revoke z.pc k.caps e s) (i:=5) rfl s2 fun r h3 hr s3=>?_;unfold fR;refine ar (fun d=>?_) (fun d=>?_)
 ·have d':w = true/\r.2 = 0:=by simpa using d
  have hno:¬ (fAa.revoke k.caps e s).1.2 ≠ 0:=by rw [← hr]; simp [d'.2]
  obtain ⟨rfl,d2⟩:=d';have e1:PK.revoke k e s true = (⟨0,u64.wrap ((fAa.revoke k.caps e s).1.1++(fAa.drop (fAa.revoke k.caps e s).2 e s).1.1).length⟩,
   PK.gone { k with caps:=(fAa.drop (fAa.revoke k.caps e s).2 e s).2 } (fAa.at_ k.caps e s).1.fEa ((fAa.revoke k.caps e s).1.1++(fAa.drop (fAa.revoke k.caps e s).2 e s).1.1)):=by unfold PK.revoke; rw [if_neg hno,if_pos rfl]
  rw [e1];refine aJ z.pc s3 (i:=1) rfl rfl rfl ?_;refine cl_p (sp_caps_Drop z.pc _ e s) (i:=6) rfl s3 fun r4 h4 hr4 s4=>?_;refine ru (τ:=ba) (i:=1) (j:=0) (enc:=au.C) (ys:=(fAa.drop (fAa.revoke k.caps e s).2 e s).1.1) tU tU.sl wF place_one s4 rfl rfl (by omega) (by omega) (by omega) fun v h5 s5=>?_;refine bB (by simp [d2]) ?_;refine revoke_loop _ (ok_caps ok (by rw [fAa.drop_len,fAa.revoke_len]) (fAa.ok_drop o1 _ _) (fAa.fine_drop o1 f1 _ _)) h1 ?_ (by simp; omega) (aT (l:=[vP r4.1 (fAa.drop (fAa.revoke k.caps e s).2 e s).1.1]) s5) fun h' s'=>aw rfl s';intro p hp;unfold fAa.has;simp only [fAa.drop_len,fAa.revoke_len];rcases List.mem_append.1 hp with hp | hp
  ·exact len1.2 p hp
  ·exact len2.2 p hp
 ·refine ar (fun d2=>?_) (fun d2=>?_)
  ·have d2':(fAa.revoke k.caps e s).1.2 ≠ 0:=by rw [← hr]; simpa using d2
   have e1:PK.revoke k e s w = (⟨(fAa.revoke k.caps e s).1.2,0⟩,k):=if_pos d2';rw [e1];rw [(revoke_no d2').1] at s3;exact aw (by rw [hr]) (bW h1 ok (aT (l:=[vP r.1 _]) s3))
  ·have d2':¬ (fAa.revoke k.caps e s).1.2 ≠ 0:=by rw [← hr]; simpa using d2
   have hw:w = false:=by
    cases w with
    | false=>rfl
    | true=>simp at d d2; exact absurd d2 d
   subst hw;have e1:PK.revoke k e s false = (⟨0,u64.wrap (fAa.revoke k.caps e s).1.1.length⟩,PK.gone { k with caps:=(fAa.revoke k.caps e s).2 } (fAa.at_ k.caps e s).1.fEa (fAa.revoke k.caps e s).1.1):=by unfold PK.revoke; rw [if_neg d2',if_neg Bool.false_ne_true]
   rw [e1];refine revoke_loop _ (ok_caps ok (by rw [fAa.revoke_len]) o1 f1) h1 ?_ (by omega) s3 fun h' s'=>aw rfl s';intro p hp;unfold fAa.has;simp only [fAa.revoke_len];exact len1.2 p hp
theorem sp_plain_maps (x:Ptr) (k:PK) (e pg s r:Int) (he:PK.off k e = false):Sp prog mj [pv x,.int .i64 e,.int .i64 pg,.int .i64 s,.int .i64 r] aC [aO x k] (fun v=>pa_ (v = (PK.maps k e pg s r).1) [aO x (PK.maps k e pg s r).2]):=by
 intro h s0;obtain ⟨z,rfl,h1,ok,hl,st⟩:=eL s0;have ok2:=ok_maps ok e pg s r;obtain ⟨n,rfl,hn⟩:=off_nat ok he;have hn':n < z.tp.length:=by omega
 have ht:PK.tab k (n:Int) = k.tabs[n]:=(tab_of ok hn).1;refine sim_plain_Kernel_maps _ _ _ _ _ ?_;unfold qT;refine bn (aJ z.pc st (i:=0) rfl rfl rfl ?_);refine aW (jn z.pc k.caps n s) (i:=5) rfl st fun c h2 hc s2=>?_;subst hc;refine ar (fun d=>?_) (fun d=>?_)
 ·have d':(fAa.at_ k.caps n s).2 = false:=by simpa using d
  have e1:PK.maps k n pg s r = (3,k):=if_pos d';rw [e1]; exact aw rfl (bW h1 ok s2)
 ·have d':¬ (fAa.at_ k.caps n s).2 = false:=by simpa using d
  refine aJ z.ts s2 (i:=0) rfl rfl rfl ?_;refine bE s2 (j:=2) rfl (by omega) (by omega) fun q hq=>?_;refine bK (j:=2) (i:=n) (k:=0) z.tp[n] fu s2 rfl hq (by simp) (al hn') (by simp) ?_;have s3:=gJ (al hn') (al hn) (aA [3] s2 rfl);refine aW (nu z.tp[n] k.tabs[n] pg) (i:=0) rfl s3 fun v h4 hv s4=>?_;subst hv;have back:∀ h,ah (bV z.tp[n] k.tabs[n]::but bV z.tp k.tabs n::blk z.b bz (qj k.s z)::gC z.pm k.m::vQ dk z.ts z.tp::eW z.pp k.pool::bD z.pc k.caps::[]) h->ah [aO (some (z.b,0)) k] h :=
   fun h s=>bW h1 ok (aA [1,1,1] (rv (al hn') (al hn) h1 s) rfl)
  refine ar (fun d2=>?_) (fun d2=>?_)
  ·have e1:PK.maps k n pg s r = (4,k):=by unfold PK.maps; rw [if_neg d',ht,if_pos d2]
   rw [e1]; exact aw rfl (back _ s4)
  ·have d2':¬ (Table.get k.tabs[n] pg).2 = true:=by rw [d2]; exact Bool.false_ne_true
   refine ar (fun d3=>?_) (fun d3=>?_)
   ·have e1:PK.maps k n pg s r = (5,k):=by unfold PK.maps; rw [if_neg d',ht,if_neg d2',if_pos (by simpa using d3)]
    rw [e1]; exact aw rfl (back _ s4)
   ·have e1:PK.maps k n pg s r = ((Table.insert k.tabs[n] pg ⟨(fAa.at_ k.caps n s).1.fEa,s,r⟩).1,{ k with tabs:=k.tabs.set n (Table.insert k.tabs[n] pg ⟨(fAa.at_ k.caps n s).1.fEa,s,r⟩).2 }):=by
     unfold PK.maps; rw [if_neg d',ht,if_neg d2',if_neg (by simpa using d3)]; rfl
    rw [e1] at ok2 ⊢;refine aJ z.ts s4 (i:=2) rfl rfl rfl ?_;refine bE s4 (j:=4) rfl (by omega) (by omega) fun q2 hq2=>?_;refine bK (j:=4) (i:=n) (k:=0) z.tp[n] fu s4 rfl hq2 (by simp) (al hn') (by simp) ?_;refine aW (jF z.tp[n] k.tabs[n] pg ⟨(fAa.at_ k.caps n s).1.fEa,s,r⟩) (i:=0) rfl s4 fun v h5 hv s5=>?_;subst hv;exact aw rfl (bW (k:={ k with tabs:=_ }) (by simpa using h1) ok2 (aA [1,1,1] (vF (al hn') hn h1 s5) rfl))
theorem sp_plain_protect (x:Ptr) (k:PK) (e pg r:Int) (he:PK.off k e = false):Sp prog jw [pv x,.int .i64 e,.int .i64 pg,.int .i64 r] aC [aO x k] (fun v=>pa_ (v = (PK.protect k e pg r).1) [aO x (PK.protect k e pg r).2]):=by
 intro h s0;obtain ⟨z,rfl,h1,ok,hl,st⟩:=eL s0;have ok2:=ok_protect ok e pg r;obtain ⟨n,rfl,hn⟩:=off_nat ok he;have hn':n < z.tp.length:=by omega
 have ht:PK.tab k (n:Int) = k.tabs[n]:=(tab_of ok hn).1;refine vh _ _ _ _ ?_;unfold nz;refine bn (aJ z.ts st (i:=0) rfl rfl rfl ?_);refine bE st (j:=2) rfl (by omega) (by omega) fun q hq=>?_;refine bK (j:=2) (i:=n) (k:=0) z.tp[n] fu st rfl hq (by simp) (al hn') (by simp) ?_;have s3:=gJ (al hn') (al hn) (aA [3] st rfl);refine aW (nu z.tp[n] k.tabs[n] pg) (i:=0) rfl s3 fun v h4 hv s4=>?_;subst hv;have back:∀ h,ah (bV z.tp[n] k.tabs[n]::but bV z.tp k.tabs n::blk z.b bz (qj k.s z)::gC z.pm k.m::vQ dk z.ts z.tp::eW z.pp k.pool::bD z.pc k.caps::[]) h->ah [aO (some (z.b,0)) k] h :=
  fun h s=>bW h1 ok (aA [1,1,1] (rv (al hn') (al hn) h1 s) rfl)
 refine ar (fun d=>?_) (fun d=>?_)
 ·have e1:PK.protect k n pg r = (3,k):=by unfold PK.protect; rw [ht,if_pos (by simpa using d)]
  rw [e1]; exact aw rfl (back _ s4)
 ·have d':¬ (Table.get k.tabs[n] pg).2 = false:=by simpa using d
  refine aJ z.pc s4 (i:=2) rfl rfl rfl ?_;refine aW (jn z.pc k.caps n _) (i:=6) rfl s4 fun c h5 hc s5=>?_;subst hc;refine ar (fun d2=>?_) (fun d2=>?_)
  ·have e1:PK.protect k n pg r = (5,k):=by unfold PK.protect; rw [ht,if_neg d',if_pos (by simpa using d2)]
   rw [e1]; exact aw rfl (back _ s5)
  ·have e1:PK.protect k n pg r = ((Table.protect k.tabs[n] pg r).1,{ k with tabs:=k.tabs.set n (Table.protect k.tabs[n] pg r).2 }):=by
    unfold PK.protect; rw [ht,if_neg d',if_neg (by simpa using d2)]; rfl
   rw [e1] at ok2 ⊢;refine aJ z.ts s5 (i:=2) rfl rfl rfl ?_;refine bE s5 (j:=4) rfl (by omega) (by omega) fun q2 hq2=>?_;refine bK (j:=4) (i:=n) (k:=0) z.tp[n] fu s5 rfl hq2 (by simp) (al hn') (by simp) ?_;refine aW (sp_table_Protect z.tp[n] k.tabs[n] pg r) (i:=0) rfl s5 fun v h6 hv s6=>?_;subst hv;exact aw rfl (bW (k:={ k with tabs:=_ }) (by simpa using h1) ok2 (aA [1,1,1] (vF (al hn') hn h1 s6) rfl))
theorem sp_plain_sleep (x:Ptr) (k:PK) (e:Int) (c:bv):Sp prog kW [pv x,.int .i64 e,.agg c.C.toArray] aD [aO x k] (fun v=>pa_ (v = PK.sleep k e c) [aO x k]):=by
 intro h s0;obtain ⟨z,rfl,h1,ok,hl,st⟩:=eL s0;refine xo _ _ _ ?_;unfold pd;refine bn (aJ z.pc st (i:=0) rfl rfl rfl ?_);refine aW (jn z.pc k.caps e _) (i:=5) rfl st fun v h2 hv s2=>?_;subst hv;refine ar (fun d=>?_) (fun d=>?_)
 ·exact aw (by unfold PK.sleep; rw [if_pos (by simpa using d)]; rfl) (bW h1 ok s2)
 ·refine ar (fun d2=>?_) (fun d2=>?_)
  ·exact aw (by unfold PK.sleep; rw [if_neg (by simpa using d),if_pos (by simpa using d2)]; rfl) (bW h1 ok s2)
  ·refine aJ z.pm s2 (i:=0) rfl rfl rfl ?_;refine aW (qK z.pm k.m _ _) (i:=1) rfl s2 fun v h3 hv s3=>?_;subst hv;refine ar (fun d3=>?_) (fun d3=>?_)
   ·exact aw (by unfold PK.sleep; rw [if_neg (by simpa using d),if_neg (by simpa using d2),if_pos (by simpa using d3)]) (bW h1 ok s3)
   ·exact aw (by unfold PK.sleep; rw [if_neg (by simpa using d),if_neg (by simpa using d2),if_neg (by simpa using d3)]) (bW h1 ok s3)
theorem sp_plain_user (x:Ptr) (k:PK) (e:Int) (c:bv) (he:PK.off k e = false):Sp prog mh [pv x,.int .i64 e,.agg c.C.toArray] gb [aO x k] (fun v=>pa_ (v = (PK.user k e c).1) [aO x (PK.user k e c).2]):=by
 intro h s0;obtain ⟨z,rfl,h1,ok,hl,st⟩:=eL s0;obtain ⟨n,rfl,hn⟩:=off_nat ok he;have hn':n < z.tp.length:=by omega
 have ht:PK.tab k (n:Int) = k.tabs[n]:=(tab_of ok hn).1;refine sim_plain_Kernel_user _ _ _ ?_;unfold qR;refine bn (aJ z.ts st (i:=0) rfl rfl rfl ?_);refine bE st (j:=2) rfl (by omega) (by omega) fun q hq=>?_;refine bK (j:=2) (i:=n) (k:=0) z.tp[n] fu st rfl hq (by simp) (al hn') (by simp) ?_;have s3:=gJ (al hn') (al hn) (aA [3] st rfl);refine aW (nu z.tp[n] k.tabs[n] _) (i:=0) rfl s3 fun v h4 hv s4=>?_;subst hv;have s5:ah [aO (some (z.b,0)) k] h4:=bW h1 ok (aA [1,1,1] (rv (al hn') (al hn) h1 s4) rfl);refine ar (fun d=>?_) (fun d=>?_)
 ·have e1:PK.user k n c = (⟨7,0⟩,k):=by unfold PK.user; rw [ht,if_pos (by simpa using d)]
  rw [e1]; exact aw rfl s5
 ·have e1:PK.user k n c = ((PK.touch k (Table.get k.tabs[n] (i64.wrap c.e1)).1.fEa c).1.1,(PK.touch k (Table.get k.tabs[n] (i64.wrap c.e1)).1.fEa c).2):=by unfold PK.user; rw [ht,if_neg (by simpa using d)]
  rw [e1];refine aW (nU (some (z.b,0)) k _ c) (i:=0) rfl s5 fun v h6 hv s6=>?_;subst hv;exact aw rfl s6
theorem je (x:Ptr) (k:PK) (e:Int) (c:bv):Sp prog cD [pv x,.int .i64 e,.agg c.C.toArray] aD [aO x k] (fun v=>pa_ (v = (PK.do_ k e c).1) [aO x (PK.do_ k e c).2]):=by
 intro h s0;refine sim_plain_Kernel_Do _ _ _ ?_;unfold ti;refine aW (sp_plain_off x k e) (i:=0) rfl s0 fun v h1 hv s1=>?_;subst hv;refine ar (fun d=>?_) (fun d=>?_)
 ·have e1:PK.do_ k e c = ((⟨10,0⟩,true),k):=if_pos d;rw [e1]; exact aw rfl s1
 ·have d':¬ PK.off k e = true:=by rw [d]; exact Bool.false_ne_true
  obtain ⟨z,rfl,hz,ok,hl,st⟩:=eL s1;refine bn (aJ k.s.fHa st (i:=0) rfl rfl rfl ?_);refine ud (ir c _) st fun v h2 hv st2=>?_;subst hv;have s2:=bW hz ok st2;refine ar (fun d2=>?_) (fun d2=>?_)
  ·have e1:PK.do_ k e c = ((⟨Word.check c k.s.fHa,0⟩,true),k):=by unfold PK.do_; rw [if_neg d',if_pos (by simpa using d2)]
   rw [e1]; exact aw rfl s2
  ·have e1:PK.do_ k e c = PK.does k e c:=by unfold PK.do_; rw [if_neg d',if_neg (by simpa using d2)]
   rw [e1];unfold jr;refine ar (fun c1=>?_) (fun c1=>?_)
   ·have ed:PK.does k e c = PK.errs (PK.alloc k e (i64.wrap c.e1)):=by unfold PK.does; rw [if_pos (by simpa using c1)]
    rw [ed];exact aW (sp_plain_alloc (some (z.b,0)) k e _) (i:=0) rfl s2 fun v h3 hv s3=>aw (by rw [hv]; rfl) s3
   refine ar (fun c2=>?_) (fun c2=>?_)
   ·have ed:PK.does k e c = PK.errs (PK.derive k e (i64.wrap c.e1) e (i64.wrap c.e2) (i64.wrap c.e3)):=by unfold PK.does; rw [if_neg (by simpa using c1),if_pos (by simpa using c2)]
    rw [ed];exact aW (sp_plain_derive (some (z.b,0)) k e _ _ _ _) (i:=0) rfl s2 fun v h3 hv s3=>aw (by rw [hv]; rfl) s3
   refine ar (fun c3=>?_) (fun c3=>?_)
   ·have ed:PK.does k e c = PK.errs (PK.derive k e (i64.wrap c.e1) (i64.wrap c.e2) (i64.wrap c.e3) (i64.wrap c.e4)):=by unfold PK.does; rw [if_neg (by simpa using c1),if_neg (by simpa using c2),if_pos (by simpa using c3)]
    rw [ed];exact aW (sp_plain_derive (some (z.b,0)) k e _ _ _ _) (i:=0) rfl s2 fun v h3 hv s3=>aw (by rw [hv]; rfl) s3
   refine ar (fun c4=>?_) (fun c4=>?_)
   ·have ed:PK.does k e c = (((PK.revoke k e (i64.wrap c.e1) true).1,true),(PK.revoke k e (i64.wrap c.e1) true).2):=by unfold PK.does; rw [if_neg (by simpa using c1),if_neg (by simpa using c2),if_neg (by simpa using c3),if_pos (by simpa using c4)]
    rw [ed];exact aW (sp_plain_revoke (some (z.b,0)) k e _ _) (i:=0) rfl s2 fun v h3 hv s3=>aw (by rw [hv]) s3
   refine ar (fun c5=>?_) (fun c5=>?_)
   ·have ed:PK.does k e c = (((PK.revoke k e (i64.wrap c.e1) false).1,true),(PK.revoke k e (i64.wrap c.e1) false).2):=by unfold PK.does; rw [if_neg (by simpa using c1),if_neg (by simpa using c2),if_neg (by simpa using c3),if_neg (by simpa using c4),if_pos (by simpa using c5)]
    rw [ed];exact aW (sp_plain_revoke (some (z.b,0)) k e _ _) (i:=0) rfl s2 fun v h3 hv s3=>aw (by rw [hv]) s3
   refine ar (fun c6=>?_) (fun c6=>?_)
   ·have ed:PK.does k e c = PK.errs (PK.maps k e (i64.wrap c.e1) (i64.wrap c.e2) (i64.wrap c.e3)):=by unfold PK.does; rw [if_neg (by simpa using c1),if_neg (by simpa using c2),if_neg (by simpa using c3),if_neg (by simpa using c4),if_neg (by simpa using c5),if_pos (by simpa using c6)]
    rw [ed];exact aW (sp_plain_maps (some (z.b,0)) k e _ _ _ d) (i:=0) rfl s2 fun v h3 hv s3=>aw (by rw [hv]; rfl) s3
   refine ar (fun c7=>?_) (fun c7=>?_)
   ·have ed:PK.does k e c = PK.errs (PK.remove k e (i64.wrap c.e1)):=by unfold PK.does; rw [if_neg (by simpa using c1),if_neg (by simpa using c2),if_neg (by simpa using c3),if_neg (by simpa using c4),if_neg (by simpa using c5),if_neg (by simpa using c6),if_pos (by simpa using c7)]
    rw [ed];obtain ⟨n,rfl,hn⟩:=off_nat ok d;have hn':n < z.tp.length:=by omega
    have ht:PK.tab k (n:Int) = k.tabs[n]:=(tab_of ok hn).1;have ok2:=ok_remove ok n (i64.wrap c.e1);refine aJ z.ts st2 (i:=0) rfl rfl rfl ?_;refine bE st2 (j:=2) rfl (by omega) (by omega) fun q hq=>?_;refine bK (j:=2) (i:=n) (k:=0) z.tp[n] fu st2 rfl hq (by simp) (al hn') (by simp) ?_;have s3:=gJ (al hn') (al hn) (aA [3] st2 rfl);refine aW (sp_table_Remove z.tp[n] k.tabs[n] _) (i:=0) rfl s3 fun v h4 hv s4=>?_;subst hv;unfold PK.errs PK.remove;unfold PK.remove at ok2;rw [ht] at ok2 ⊢;exact aw rfl (bW (k:={ k with tabs:=_ }) (by simpa using hz) ok2 (aA [1,1,1] (vF (al hn') hn hz s4) rfl))
   refine ar (fun c8=>?_) (fun c8=>?_)
   ·have ed:PK.does k e c = PK.errs (PK.protect k e (i64.wrap c.e1) (i64.wrap c.e2)):=by unfold PK.does; rw [if_neg (by simpa using c1),if_neg (by simpa using c2),if_neg (by simpa using c3),if_neg (by simpa using c4),if_neg (by simpa using c5),if_neg (by simpa using c6),if_neg (by simpa using c7),if_pos (by simpa using c8)]
    rw [ed];exact aW (sp_plain_protect (some (z.b,0)) k e _ _ d) (i:=0) rfl s2 fun v h3 hv s3=>aw (by rw [hv]; rfl) s3
   refine ar (fun c9=>?_) (fun c9=>?_)
   ·have ed:PK.does k e c = (PK.sleep k e c,k):=by unfold PK.does; rw [if_neg (by simpa using c1),if_neg (by simpa using c2),if_neg (by simpa using c3),if_neg (by simpa using c4),if_neg (by simpa using c5),if_neg (by simpa using c6),if_neg (by simpa using c7),if_neg (by simpa using c8),if_pos (by simpa using c9)]
    rw [ed];exact aW (sp_plain_sleep (some (z.b,0)) k e c) (i:=0) rfl s2 fun v h3 hv s3=>aw (by rw [hv]) s3
   refine ar (fun c10=>?_) (fun c10=>?_)
   ·have ed:PK.does k e c = ((⟨0,0⟩,true),k):=by unfold PK.does; rw [if_neg (by simpa using c1),if_neg (by simpa using c2),if_neg (by simpa using c3),if_neg (by simpa using c4),if_neg (by simpa using c5),if_neg (by simpa using c6),if_neg (by simpa using c7),if_neg (by simpa using c8),if_neg (by simpa using c9),if_pos (by simpa using c10)]
    rw [ed];exact aw rfl s2
   have ed:PK.does k e c = (((PK.user k e c).1,true),(PK.user k e c).2):=by unfold PK.does; rw [if_neg (by simpa using c1),if_neg (by simpa using c2),if_neg (by simpa using c3),if_neg (by simpa using c4),if_neg (by simpa using c5),if_neg (by simpa using c6),if_neg (by simpa using c7),if_neg (by simpa using c8),if_neg (by simpa using c9),if_neg (by simpa using c10)]
   rw [ed];exact aW (sp_plain_user (some (z.b,0)) k e c d) (i:=0) rfl s2 fun v h3 hv s3=>aw (by rw [hv]) s3
theorem sp_plain_Free (x:Ptr) (k:PK):Sp prog mo [pv x] av [aO x k] (fun r=>ah [vI r (Pool.free k.pool),aO x k]):=by
 intro h s0;obtain ⟨z,rfl,h1,ok,hl,st⟩:=eL s0;refine sim_plain_Kernel_Free _ ?_;unfold qU;refine bB rfl (bn (aJ z.pp st (i:=0) rfl rfl rfl ?_));refine sM (sp_pool_Free z.pp k.pool) (i:=4) rfl st fun v h2 s2=>?_;exact vV s2 fun h3 s3=>bW h1 ok s3
theorem new_eq (s:dc) (n:Nat) (hn:s.fHa = n) (m:Nat) (hm:s.fUa = m):PK.new s = ⟨s,replicate m (replicate 16 0),replicate n (replicate 8 cc),replicate m 0,replicate n (replicate 8 jd)⟩:=by
 unfold PK.new; rw [hn,hm]; rfl
theorem sx (s:dc) (hs:PK.sized s = true):Sp prog nC [.agg s.C.toArray] cM [] (fun r=>ah [aO r (PK.new s)]):=by
 intro h st;refine sim_plain_New _ ?_;unfold sh_plain_New;refine bB ?_ ?_
 ·unfold PK.sized at hs; simpa using hs
 ·skip
  have hs':=cQ.1 hs;have okn:=ok_new hs;obtain ⟨n,hn⟩:=Int.eq_ofNat_of_zero_le (show 0 <= s.fHa by omega);obtain ⟨m,hm⟩:=Int.eq_ofNat_of_zero_le (show 0 <= s.fUa by omega);rw [new_eq s n hn m hm] at okn ⊢;refine lW (sp_mem_New s.fUa (by omega) (by omega)) st fun pm h1 s1=>?_;refine lW (sp_pool_New s.fUa (by omega) (by omega)) s1 fun pp h2 s2=>?_;refine lW (sp_caps_New s.fHa (by omega) (by omega)) s2 fun pc h3 s3=>?_;refine nP s3 fun b h4 s4=>?_;have s5:=dp (τ:=Ptr) (T:=dk) (m:=1) (enc:=cP) (all_nil (A:=bV) s4);simp only [hn,hm,toNat_natCast] at s5;refine Lp.intro (fun (i:Int) h=>∃ (j:Nat) (ts:Sl) (tp:List Ptr),i = j/\j <= n/\tp.length = j/\ah [vQ dk ts tp,all bV tp (replicate j (replicate 8 cc)),blk b bz (qj s ⟨b,pm,ts,tp,pp,pc⟩),bD pc (replicate n (replicate 8 jd)),eW pp (replicate m 0),gC pm (replicate m (replicate 16 0))] h) (fun (i:Int) _=>n - i.toNat) ⟨0,⟨none,0,0,none⟩,[],rfl,zero_le _,rfl,?_⟩ ?_
  ·have:qj s ⟨b,pm,⟨none,0,0,none⟩,[],pp,pc⟩ = fw.C (⟨s,pm,(⟨none,0,0,none⟩:Sl),pp,pc⟩:fw):=rfl;rw [this]; exact s5
  ·rintro i h ⟨j,ts,tp,rfl,hj,htp,s6⟩;unfold plain_New_l1;refine ar (fun d2=>?_) (fun d2=>?_)
   ·have hlt:j < n:=by rw [hn] at d2; simpa using d2
    have hw:i64.wrap ((j:Int) + 1) = ((j + 1:Nat):Int):=by rw [aE (by omega) (by omega)]; rfl
    have fin:∀ (r53:Ptr) (v55:Sl) (h:Hp),ah [vQ dk v55 (tp++[r53]),bV r53 (replicate 8 cc),all bV tp (replicate j (replicate 8 cc)),blk b bz (qj s ⟨b,pm,ts,tp,pp,pc⟩),bD pc (replicate n (replicate 8 jd)),eW pp (replicate m 0),gC pm (replicate m (replicate 16 0))] h ->
      Mb.st (b,4) [sv v55] (fun h=>(∃ (j':Nat) (ts:Sl) (tp:List Ptr),((j + 1:Nat):Int) = j'/\j' <= n/\tp.length = j'/\ah [vQ dk ts tp,all bV tp (replicate j' (replicate 8 cc)),blk b bz (qj s ⟨b,pm,ts,tp,pp,pc⟩),bD pc (replicate n (replicate 8 jd)),eW pp (replicate m 0),gC pm (replicate m (replicate 16 0))] h)/\n - ((j + 1:Nat):Int).toNat < n - (j:Int).toNat) h:=by
     intro r53 v55 h s7;refine mX (i:=3) s7 rfl (show 4 + 1 <= 7 by decide) fun h8 s8=>?_;refine ⟨⟨j + 1,v55,tp++[r53],rfl,hlt,by simp [htp],?_⟩,by simp; omega⟩;have s9:=all_push (by simp [htp]) (aA [1,1] s8 rfl);have e:replicate j (replicate 8 cc)++[replicate 8 cc] = replicate (j + 1) (replicate 8 cc):=List.replicate_succ'.symm;rw [e] at s9;exact aA [1] s9 rfl
    rw [hw];refine ⟨?_,?_⟩
    ·refine aJ ts s6 (i:=2) rfl rfl rfl ?_;refine lW nT s6 fun r53 h7 s7=>?_;refine iX (τ:=Ptr) (i:=1) (enc:=cP) (val:=fun x=>pv x) wT fu cP_one (fun _=>rfl) (by omega) rfl rfl s7 rfl (by omega) (by omega) fun v h8 s8=>?_;exact fin r53 v h8 (aA [1] s8 rfl)
    ·refine lW nT s6 fun r53 h7 s7=>?_;refine aJ ts s7 (i:=3) rfl rfl rfl ?_;refine iX (τ:=Ptr) (i:=1) (enc:=cP) (val:=fun x=>pv x) wT fu cP_one (fun _=>rfl) (by omega) rfl rfl s7 rfl (by omega) (by omega) fun v h8 s8=>?_;exact fin r53 v h8 (aA [1] s8 rfl)
   ·have:j = n:=by rw [hn] at d2; simp at d2; omega
    subst this;refine bW (z:=⟨b,pm,ts,tp,pp,pc⟩) ?_ okn (aA [2,4,0,0,1] s6 rfl);simpa using htp
end
section
open Go Mb
theorem sp_plain_more (zb ob:Nat) (kc oc:List Value) (ts:Sl) (pc po:Ptr) (t o:fAa.T) (h4:kc[4]? = some (sv ts)) (h6:kc[6]? = some (pv pc)) (o6:oc[6]? = some (pv po)) (hl:ts.len = o.length) (hb:o.length <= 4) :
  Sp prog mi [pv (some (zb,0)),pv (some (ob,0))] ai [blk zb bz kc,bD pc t,blk ob bz oc,bD po o]
   (fun r=>pa_ (r = (fAa.moreE o o.length (false,t)).1) [blk zb bz kc,bD pc (fAa.moreE o o.length (false,t)).2,blk ob bz oc,bD po o]):=by
 intro h s0;refine sim_plain_Kernel_more _ _ ?_;unfold qS;refine bn (aJ ts s0 (i:=0) rfl rfl h4 ?_);refine Lp.intro (fun (z:Bool × Int) h=>∃ m:Nat,z.2 = m/\m <= o.length/\z.1 = (fAa.moreE o m (false,t)).1/\ah [blk zb bz kc,bD pc (fAa.moreE o m (false,t)).2,blk ob bz oc,bD po o] h) (fun (z:Bool × Int) _=>o.length - z.2.toNat) ⟨0,rfl,zero_le _,rfl,s0⟩ ?_;rintro ⟨b,i⟩ h ⟨m,rfl,hm,rfl,s1⟩;unfold rj;refine ar (fun k=>?_) (fun k=>?_)
 ·have hlt:m < o.length:=by rw [hl] at k; simpa using k
  have hw:i64.wrap ((m:Int) + 1) = ((m + 1:Nat):Int):=by rw [aE (by omega) (by omega)]; rfl
  refine Lp.intro (fun (z:Bool × Int) h=>∃ j:Nat,z.2 = j/\j <= 8/\z.1 = (fAa.moreS o m j (fAa.moreE o m (false,t))).1/\ah [blk zb bz kc,bD pc (fAa.moreS o m j (fAa.moreE o m (false,t))).2,blk ob bz oc,bD po o] h) (fun (z:Bool × Int) _=>8 - z.2.toNat) ⟨0,rfl,zero_le _,rfl,s1⟩ ?_;rintro ⟨b,i⟩ h ⟨j,rfl,hj,rfl,s2⟩;unfold ri;refine ar (fun k2=>?_) (fun k2=>?_)
  ·have hlt2:j < 8:=by have:=of_decide_eq_true k2; simp at this; omega
   have hw2:i64.wrap ((j:Int) + 1) = ((j + 1:Nat):Int):=by rw [aE (by omega) (by omega)]; rfl
   have es:fAa.moreS o m (j + 1) (fAa.moreE o m (false,t)) = ((fAa.moreS o m j (fAa.moreE o m (false,t))).1 || (fAa.more1 o (fAa.moreS o m j (fAa.moreE o m (false,t))).2 m j).1,(fAa.more1 o (fAa.moreS o m j (fAa.moreE o m (false,t))).2 m j).2):=rfl;generalize hst:fAa.moreS o m j (fAa.moreE o m (false,t)) = st at *
   refine bn (aJ po s2 (i:=2) rfl rfl o6 ?_);refine aW (jn po o m j) (i:=3) rfl s2 fun r h3 hr s3=>?_;subst hr;refine aJ pc s3 (i:=0) rfl rfl h6 ?_;refine aW (jn pc st.2 m j) (i:=1) rfl s3 fun r h4 hr s4=>?_;subst hr;rw [hw2];refine ar (fun k3=>?_) (fun k3=>?_)
   ·have k3':(fAa.at_ o m j).2 = false\/(fAa.at_ st.2 m j).2 = true:=by simpa using k3
    have e1:fAa.more1 o st.2 m j = (false,st.2):=if_pos k3';refine ⟨⟨j + 1,rfl,hlt2,?_,?_⟩,by simp; omega⟩
    ·rw [es,e1]; simp
    ·rw [es,e1]; exact s4
   ·have k3':¬ ((fAa.at_ o m j).2 = false\/(fAa.at_ st.2 m j).2 = true):=by simp at k3; simp [k3]
    refine ar (fun k4=>?_) (fun k4=>?_)
    ·have e1:fAa.more1 o st.2 m j = ((fAa.root st.2 m j (fAa.at_ o m j).1.fEa).1 == 0,(fAa.root st.2 m j (fAa.at_ o m j).1.fEa).2):=by unfold fAa.more1; rw [if_neg k3',if_pos (by simpa using k4)]
     refine aJ pc s4 (i:=0) rfl rfl h6 ?_;refine aW (xl pc st.2 m j _) (i:=1) rfl s4 fun r h5 hr s5=>?_;subst hr;refine ⟨⟨j + 1,rfl,hlt2,?_,?_⟩,by simp; omega⟩
     ·rw [es,e1]
     ·rw [es,e1]; exact s5
    ·have e1:fAa.more1 o st.2 m j = ((fAa.derive st.2 (fAa.at_ o m j).1.fBa (fAa.at_ o m j).1.fDa m j (fAa.at_ o m j).1.fCa).1 == 0,(fAa.derive st.2 (fAa.at_ o m j).1.fBa (fAa.at_ o m j).1.fDa m j (fAa.at_ o m j).1.fCa).2):=by unfold fAa.more1; rw [if_neg k3',if_neg (by simpa using k4)]
     refine aJ pc s4 (i:=0) rfl rfl h6 ?_;refine aW (tg pc st.2 _ _ m j _) (i:=1) rfl s4 fun r h5 hr s5=>?_;subst hr;refine ⟨⟨j + 1,rfl,hlt2,?_,?_⟩,by simp; omega⟩
     ·rw [es,e1]
     ·rw [es,e1]; exact s5
  ·have:j = 8:=by have:=of_decide_eq_false k2; simp at this; omega
   subst this;rw [hw];exact ⟨⟨m + 1,rfl,hlt,rfl,s2⟩,by simp; omega⟩
 ·have:m = o.length:=by rw [hl] at k; simp at k; omega
  subst this;exact aw rfl s1
section
variable {α:Type}
def ee (xs:List α) (d:α) (n:Nat):List α:=xs.take n++replicate (xs.length - n) d
theorem mixd_len (xs:List α) (d:α) {n:Nat} (h:n <= xs.length):(ee xs d n).length = xs.length:=by simp [ee]; omega
theorem sV (xs:List α) (d:α):ee xs d 0 = replicate xs.length d:=by simp [ee]
theorem wM (xs:List α) (d:α):ee xs d xs.length = xs:=by simp [ee]
theorem mixd_get (xs:List α) (d:α) {n:Nat} (h:n < xs.length):(ee xs d n)[n]? = some d:=by
 unfold ee;rw [List.getElem?_append_right (by simp; omega),List.getElem?_replicate,if_pos (by simp; omega)]
theorem rp (xs:List α) (d:α) {n:Nat} (h:n < xs.length):(ee xs d n).set n xs[n] = ee xs d (n + 1):=by
 unfold ee;rw [List.set_append_right _ _ (by simp; omega)];have e1:n - (xs.take n).length = 0:=by simp; omega
 have e2:xs.length - n = (xs.length - (n + 1)) + 1:=by omega
 rw [e1,e2,List.replicate_succ,List.set_cons_zero];have e3:xs.take (n + 1) = xs.take n++[xs[n]]:=by simp
 rw [e3,List.append_assoc]; rfl
end
theorem put_ok {p:Pte} (h:PteFine p) (h0:p.fCa ≠ 0):(cK p).2 = true:=by
 rcases h with h | ⟨h1,h2,h3,h4,h5⟩
 ·rw [h] at h0; exact absurd rfl h0
 ·unfold cK;have e1:ak.eqb p ⟨0,0,0⟩ = false:=by
   unfold ak.eqb;have:(p.fCa == 0) = false:=by simpa using h0
   simp [this]
  have e2:(((((decide (p.fEa < 0)) || (decide (p.fEa >= 16))) || (decide (p.fDa < 0))) || (decide (p.fDa >= 8))) || (!(aS p.fCa))) = false:=by
   simp [h5]; omega
  rw [e1,e2]; rfl
theorem insert_mixd {row:List Pte} (h:pL row) {j:Nat} (hj:j < 8) (hr:row[j]?.map (·.fCa) ≠ some 0):Table.insert (ee row cc j) j (row.getD j cc) = (0,ee row cc (j + 1)):=by
 have hjl:j < row.length:=by rw [h.1]; exact hj
 have hg:row.getD j cc = row[j]:=by simp [hjl]
 rw [hg];have h0:row[j].fCa ≠ 0:=by
  intro e; apply hr; rw [List.getElem?_eq_getElem hjl]; simp [e]
 have hp:=put_ok (h.2 _ (getElem_mem hjl)) h0;have hat:Table.at_ (ee row cc j) j = cc:=by
  unfold Table.at_;rw [toNat_natCast,List.getD_eq_getElem?_getD,mixd_get row cc hjl]; rfl
 have his:aK j = true:=by unfold aK; simp; omega
 unfold Table.insert;rw [if_neg (by simp [hp,h0,his]),hat,if_neg (by simp),toNat_natCast,rp row cc hjl]
theorem idx_rep (m:Nat):∀ (f:Nat) (i:Int),cn 0 (replicate f 1++replicate (m + 1) 0) i = i + f
 | 0,i=>by simp [cn,List.replicate_succ]
 | f + 1,i=>by
  rw [List.replicate_succ,List.cons_append,cn,if_neg (by decide),idx_rep m f (i + 1)];omega
theorem take_mixd {F f:Nat} (h:f < F):(Pool.take (ee (replicate F (1:Int)) 0 f)).2.2 = ee (replicate F (1:Int)) 0 (f + 1):=by
 have hl:f < (replicate F (1:Int)).length:=by simpa using h
 have e:ee (replicate F (1:Int)) 0 f = replicate f 1++replicate ((F - f - 1) + 1) 0:=by
  unfold ee;rw [List.take_replicate,length_replicate,Nat.min_eq_left (by omega)]
  congr 2; omega
 have hi:cn 0 (ee (replicate F (1:Int)) 0 f) 0 = f:=by rw [e,idx_rep]; omega
 unfold Pool.take;rw [hi,if_neg (by omega)];have:=rp (replicate F (1:Int)) 0 hl;rw [List.getElem_replicate] at this;simpa using this
abbrev cpL (zo z:PZ) (o k:PK):List As:=plainL zo o++plainL z k
abbrev Done (z:PZ) (k:PK) (r:Ptr):As:=ah [aO r k,aO (some (z.b,0)) k]
theorem copy7 {zo z:PZ} {o k:PK} {h:Hp} (ok:PK.Ok k) (ho:zo.tp.length = k.tabs.length) (hz:z.tp.length = k.tabs.length) (es:o.s = k.s) (em:o.m = k.m) (et:o.tabs = k.tabs) (ep:o.pool = k.pool) (oko:fAa.Ok o.caps) (sb:fAa.Sub o.caps k.caps)
  (s0:ah (cpL zo z o k) h):Lp (kP (Done z k) (z.b,0) (some (zo.b,0))) () h:=by
 obtain ⟨os,om,ot,op,oc⟩:=o;simp only at es em et ep oko sb;subst es; subst em; subst et; subst ep;have hs:=cQ.1 ok.sz;have hts:=(aX (j:=2) s0 rfl).1;have hcl:=ok.cl;have htl:=ok.tl;refine Lp.ghost (γ:=fAa.T) (fun c _ h=>fAa.Ok c/\fAa.Sub c k.caps/\ah (cpL zo z ⟨k.s,k.m,k.tabs,k.pool,c⟩ k) h) (fun c=>fAa.miss k.caps c) ⟨oko,sb,s0⟩ ?_;rintro c s h ⟨okc,sbc,s1⟩ R hR;have w:=fAa.way_all (n:=k.s.fUa) (by omega) ok.tree ok.fine okc sbc k.caps.length (Nat.le_refl _);unfold kP;refine bG [0,4,4,8] (sp_plain_more zo.b z.b (qj k.s zo) (qj k.s z) zo.ts zo.pc z.pc c k.caps rfl rfl rfl (by omega) (by omega)) s1 rfl fun r h2 s2=>?_;obtain ⟨hr,s3⟩:=aM.1 s2;have s4:ah (cpL zo z ⟨k.s,k.m,k.tabs,k.pool,(fAa.moreE k.caps k.caps.length (false,c)).2⟩ k) h2:=aA [0,3,3,3,3,0,0,1,1,1,1,0] s3 rfl;refine ar (fun d=>?_) (fun d=>?_)
 ·exact hR _ () h2 ⟨w.ok,w.sub,s4⟩ (w.lt (by rw [← hr,d]))
 ·have hf:(fAa.moreE k.caps k.caps.length (false,c)).1 = false:=by rw [← hr,d]
  have hsame:=w.same hf;rw [hsame] at s4;have hc:c = k.caps:=fAa.all_there (n:=k.s.fUa) (by omega) ok.tree ok.fine okc sbc fun e s he hs=>w.no hf e s ⟨he,hs⟩;subst hc;have s5:=bW (z:=zo) (k:=k) (l:=plainL z k) ho ok s4;exact aA [1] (bW (z:=z) (k:=k) hz ok (aA [1,1,1,1,1,1] s5 rfl)) rfl
theorem copy5 {zo z:PZ} {o k:PK} {h:Hp} {x92:Sl} (ok:PK.Ok k) (ho:zo.tp.length = k.tabs.length) (hz:z.tp.length = k.tabs.length) (hx:x92.len = k.tabs.length) (es:o.s = k.s) (em:o.m = k.m) (et:o.tabs = replicate k.tabs.length (replicate 8 cc)) (ep:o.pool = k.pool) (oko:fAa.Ok o.caps) (sb:fAa.Sub o.caps k.caps)
  (s0:ah (cpL zo z o k) h):Lp (kQ (Done z k) (z.b,0) (some (zo.b,0)) x92) 0 h:=by
 obtain ⟨os,om,ot,op,oc⟩:=o;simp only at es em et ep oko sb;subst es; subst em; subst et; subst ep;have hs:=cQ.1 ok.sz;have htl:=ok.tl;have hzs:=(aX (j:=8) s0 rfl).1;have hos:=(aX (j:=2) s0 rfl).1;have e0:replicate k.tabs.length (replicate 8 cc) = ee k.tabs (replicate 8 cc) 0:=(sV _ _).symm;rw [e0] at s0;refine Lp.intro (fun (i:Int) h=>∃ e:Nat,i = e/\e <= k.tabs.length/\ah (cpL zo z ⟨k.s,k.m,ee k.tabs (replicate 8 cc) e,k.pool,oc⟩ k) h) (fun (i:Int) _=>k.tabs.length - i.toNat) ⟨0,rfl,zero_le _,s0⟩ ?_;rintro i h ⟨e,rfl,he,s1⟩;unfold kQ;refine ar (fun d=>?_) (fun d=>?_)
 ·have hlt:e < k.tabs.length:=by rw [hx] at d; simpa using d
  have hw:i64.wrap ((e:Int) + 1) = ((e + 1:Nat):Int):=by rw [aE (by omega) (by omega)]; rfl
  have htab:pL k.tabs[e]:=ok.tr _ (getElem_mem hlt);have hml:=mixd_len k.tabs (replicate 8 cc) he;have heo:e < zo.tp.length:=by omega
  have hez:e < z.tp.length:=by omega
  have hmg:=mixd_get k.tabs (replicate 8 cc) hlt;have r0:replicate 8 cc = ee k.tabs[e] cc 0:=by rw [sV,htab.1]
  refine Lp.intro (fun (i:Int) h=>∃ j:Nat,i = j/\j <= 8/\ah (cpL zo z ⟨k.s,k.m,(ee k.tabs (replicate 8 cc) e).set e (ee k.tabs[e] cc j),k.pool,oc⟩ k) h) (fun (i:Int) _=>8 - i.toNat) ⟨0,rfl,zero_le _,?_⟩ ?_
  ·rw [← r0,hG hmg]; exact s1
  rintro i h ⟨j,rfl,hj,s2⟩;unfold rl;refine ar (fun d2=>?_) (fun d2=>?_)
  ·have hlt2:j < 8:=by have:=of_decide_eq_true d2; omega
   have hjl:j < k.tabs[e].length:=by rw [htab.1]; exact hlt2
   have hw2:i64.wrap ((j:Int) + 1) = ((j + 1:Nat):Int):=by rw [aE (by omega) (by omega)]; rfl
   have his:aK j = true:=by unfold aK; simp; omega
   have hat:Table.at_ k.tabs[e] j = k.tabs[e][j]:=by simp [Table.at_,hjl]
   refine aJ z.ts s2 (i:=6) rfl rfl rfl ?_;refine bE s2 (j:=8) rfl (by omega) (by omega) fun q hq=>?_;refine bK (j:=8) (i:=e) (k:=0) z.tp[e] fu s2 rfl hq (by simp) (al hez) (by simp) ?_;have s3:=gJ (al hez) (al hlt) (aA [9] s2 rfl);refine aW (nu z.tp[e] k.tabs[e] j) (i:=0) rfl s3 fun r h4 hr s4=>?_;subst hr;have s5:ah (cpL zo z ⟨k.s,k.m,(ee k.tabs (replicate 8 cc) e).set e (ee k.tabs[e] cc j),k.pool,oc⟩ k) h4:=aA [1,1,1,1,1,1,1,1,1,0] (rv (al hez) (al hlt) hz s4) rfl;refine ar (fun d3=>?_) (fun d3=>?_)
   ·have hne:k.tabs[e][j].fCa ≠ 0:=by
     unfold Table.get at d3;split at d3
     ·rename_i hh; rw [hat] at hh; exact hh.2
     ·cases d3
    have eg:(Table.get k.tabs[e] j).1 = k.tabs[e].getD j cc:=by
     unfold Table.get; rw [hat,if_pos ⟨his,hne⟩]; simp [hjl]
    have ei:=insert_mixd htab hlt2 (by rw [List.getElem?_eq_getElem hjl]; simpa using hne);rw [eg];refine bn (aJ zo.ts s5 (i:=0) rfl rfl rfl ?_);refine bE s5 (j:=2) rfl (by omega) (by omega) fun q2 hq2=>?_;refine bK (j:=2) (i:=e) (k:=0) zo.tp[e] fu s5 rfl hq2 (by simp) (al heo) (by simp) ?_;have dh:((ee k.tabs (replicate 8 cc) e).set e (ee k.tabs[e] cc j))[e]? = some (ee k.tabs[e] cc j):=by rw [List.getElem?_set,if_pos rfl,if_pos (by rw [hml]; exact hlt)]
    have s6:=gJ (al heo) dh (aA [3] s5 rfl);refine aW (jF zo.tp[e] _ j _) (i:=0) rfl s6 fun r h7 hr s7=>?_;rw [ei] at s7;have s8:=vF (al heo) (by rw [length_set,hml]; exact hlt) (by rw [length_set,hml]; exact ho) s7;rw [set_set] at s8;rw [hw2];exact ⟨⟨j + 1,rfl,hlt2,aA [1,1,1] s8 rfl⟩,by simp; omega⟩
   ·have hze:k.tabs[e][j] = cc:=by
     rcases htab.2 _ (getElem_mem hjl) with h | h
     ·exact h
     ·have:=oM.1 h.2.2.2.2;unfold Table.get at d3;rw [hat,if_pos ⟨his,by omega⟩] at d3; cases d3
    have hsame:ee k.tabs[e] cc j = ee k.tabs[e] cc (j + 1):=by
     rw [← rp _ _ hjl,hze,hG (mixd_get _ _ hjl)]
    rw [hsame] at s5;rw [hw2];exact ⟨⟨j + 1,rfl,hlt2,s5⟩,by simp; omega⟩
  ·have:j = 8:=by have:=of_decide_eq_false d2; omega
   subst this;have er:ee k.tabs[e] cc 8 = k.tabs[e]:=by have:=wM k.tabs[e] cc; rw [htab.1] at this; exact this
   rw [er,rp _ _ hlt] at s2;rw [hw];exact ⟨⟨e + 1,rfl,hlt,s2⟩,by simp; omega⟩
 ·have:e = k.tabs.length:=by rw [hx] at d; simp at d; omega
  subst this;rw [wM] at s1;exact copy7 (o:=⟨k.s,k.m,k.tabs,k.pool,oc⟩) ok ho hz rfl rfl rfl rfl oko sb s1
theorem refs_nat {p:List Int} {f:Nat} (h:f < p.length):Pool.refs p f = p[f]:=by
 unfold Pool.refs; rw [if_neg (by omega)]; simp [h]
theorem copy3 {zo z:PZ} {o k:PK} {h:Hp} (ok:PK.Ok k) (ho:zo.tp.length = k.tabs.length) (hz:z.tp.length = k.tabs.length) (es:o.s = k.s) (em:o.m = k.m) (et:o.tabs = replicate k.tabs.length (replicate 8 cc)) (ep:o.pool = replicate k.pool.length 1) (oko:fAa.Ok o.caps) (sb:fAa.Sub o.caps k.caps)
  (s0:ah (cpL zo z o k) h):Lp (kR (Done z k) (z.b,0) (some (zo.b,0)) k.s.fUa) 0 h:=by
 obtain ⟨os,om,ot,op,oc⟩:=o;simp only at es em et ep oko sb;subst es; subst em; subst et; subst ep;have hs:=cQ.1 ok.sz;have hpl:=ok.pl;rw [← sV k.pool 1] at s0;refine Lp.intro (fun (i:Int) h=>∃ f:Nat,i = f/\f <= k.pool.length/\ah (cpL zo z ⟨k.s,k.m,replicate k.tabs.length (replicate 8 cc),ee k.pool 1 f,oc⟩ k) h) (fun (i:Int) _=>k.pool.length - i.toNat) ⟨0,rfl,zero_le _,s0⟩ ?_;rintro i h ⟨f,rfl,hf,s1⟩;unfold kR;refine ar (fun d=>?_) (fun d=>?_)
 ·have hlt:f < k.pool.length:=by have:=of_decide_eq_true d; omega
  have hw:i64.wrap ((f:Int) + 1) = ((f + 1:Nat):Int):=by rw [aE (by omega) (by omega)]; rfl
  have hml:=mixd_len k.pool 1 hf;have hmg:=mixd_get k.pool 1 hlt;have hr7:=ok.pr _ (getElem_mem hlt);refine aJ z.pp s1 (i:=6) rfl rfl rfl ?_;refine aW (xj z.pp k.pool f) (i:=10) rfl s1 fun r h2 hr s2=>?_;rw [refs_nat hlt] at hr;subst hr;have hw0:i64.wrap (k.pool[f] - 1) = k.pool[f] - 1:=aE (by omega) (by omega);refine Lp.intro (fun (i:Int) h=>∃ j:Nat,i = j/\(j:Int) <= max 0 (k.pool[f] - 1)/\ah (cpL zo z ⟨k.s,k.m,replicate k.tabs.length (replicate 8 cc),(ee k.pool 1 f).set f (1 + (j:Int)),oc⟩ k) h) (fun (i:Int) _=>(8 - i).toNat) ⟨0,rfl,by omega,?_⟩ ?_
  ·have:(ee k.pool 1 f).set f (1 + ((0:Nat):Int)) = ee k.pool 1 f:=by
    rw [show (1:Int) + ((0:Nat):Int) = 1 from rfl,hG hmg]
   rw [this]; exact s2
  rintro i h ⟨j,rfl,hj,s3⟩;have dh:f < ((ee k.pool 1 f).set f (1 + (j:Int))).length:=by rw [length_set,hml]; exact hlt
  have hgs:((ee k.pool 1 f).set f (1 + (j:Int)))[f] = 1 + (j:Int):=by simp
  unfold rm;rw [hw0];refine ar (fun d2=>?_) (fun d2=>?_)
  ·have hlt2:(j:Int) < k.pool[f] - 1:=of_decide_eq_true d2;have hw2:i64.wrap ((j:Int) + 1) = ((j + 1:Nat):Int):=by rw [aE (by omega) (by omega)]; rfl
   refine bn (aJ zo.pp s3 (i:=0) rfl rfl rfl ?_);refine aW (sp_pool_Hold zo.pp _ f) (i:=4) rfl s3 fun r h4 hr s4=>?_;have eh:(Pool.hold ((ee k.pool 1 f).set f (1 + (j:Int))) f).2 = (ee k.pool 1 f).set f (1 + ((j + 1:Nat):Int)):=by
    unfold Pool.hold;rw [refs_nat dh,hgs,if_neg (by omega),toNat_natCast,set_set,aE (by omega) (by omega)]
    congr 1 <;> omega
   rw [eh] at s4;rw [hw2];exact ⟨⟨j + 1,rfl,by omega,s4⟩,by omega⟩
  ·have hge:¬ (j:Int) < k.pool[f] - 1:=of_decide_eq_false d2;rw [hw];refine ar (fun d3=>?_) (fun d3=>?_)
   ·have h0:k.pool[f] = 0:=by simpa using d3
    have hj0:j = 0:=by omega
    subst hj0;refine bn (aJ zo.pp s3 (i:=0) rfl rfl rfl ?_);refine aW (sp_pool_Let zo.pp _ f) (i:=4) rfl s3 fun r h4 hr s4=>?_;have eh:(Pool.lets ((ee k.pool 1 f).set f (1 + ((0:Nat):Int))) f).2.2 = ee k.pool 1 (f + 1):=by
     unfold Pool.lets;rw [refs_nat dh,hgs,if_neg (by omega),toNat_natCast,set_set,aE (by omega) (by omega),← rp _ _ hlt,h0]
     rfl
    rw [eh] at s4;exact ⟨⟨f + 1,rfl,hlt,s4⟩,by simp; omega⟩
   ·have h0:k.pool[f] ≠ 0:=by simpa using d3
    have ej:1 + (j:Int) = k.pool[f]:=by omega
    rw [ej,rp _ _ hlt] at s3;exact ⟨⟨f + 1,rfl,hlt,s3⟩,by simp; omega⟩
 ·have:f = k.pool.length:=by have:=of_decide_eq_false d; omega
  subst this;rw [wM] at s1;have hzs:=(aX (j:=8) s1 rfl).1;refine aJ z.ts s1 (i:=6) rfl rfl rfl ?_;exact copy5 (o:=⟨k.s,k.m,replicate k.tabs.length (replicate 8 cc),k.pool,oc⟩) ok ho hz (by omega) rfl rfl rfl rfl oko sb s1
theorem frame_nat {m:List (List Int)} {f:Nat} (h:f < m.length):Mem.frame m f = m[f]:=by
 have hh:Mem.has m f 0:=⟨by omega,by omega,by omega,by omega⟩
 unfold Mem.frame;rw [if_pos hh];simp [h]
theorem copy1 {zo z:PZ} {o k:PK} {h:Hp} (ok:PK.Ok k) (ho:zo.tp.length = k.tabs.length) (hz:z.tp.length = k.tabs.length) (es:o.s = k.s) (em:o.m = replicate k.m.length (replicate 16 0)) (et:o.tabs = replicate k.tabs.length (replicate 8 cc)) (ep:o.pool = replicate k.pool.length 0) (oko:fAa.Ok o.caps) (sb:fAa.Sub o.caps k.caps)
  (s0:ah (cpL zo z o k) h):Lp (kS (Done z k) (z.b,0) (some (zo.b,0)) k.s.fUa) 0 h:=by
 obtain ⟨os,om,ot,op,oc⟩:=o;simp only at es em et ep oko sb;subst es; subst em; subst et; subst ep;have hs:=cQ.1 ok.sz;have hpl:=ok.pl;have hml:=ok.ml;have hpm:k.pool.length = k.m.length:=by omega
 rw [← sV k.m] at s0;have ep0:replicate k.pool.length (0:Int) = ee (replicate k.pool.length (1:Int)) 0 0:=by rw [sV]; simp
 rw [ep0] at s0;refine Lp.intro (fun (i:Int) h=>∃ f:Nat,i = f/\f <= k.m.length/\ah (cpL zo z ⟨k.s,ee k.m (replicate 16 0) f,replicate k.tabs.length (replicate 8 cc),ee (replicate k.pool.length (1:Int)) 0 f,oc⟩ k) h) (fun (i:Int) _=>k.m.length - i.toNat) ⟨0,rfl,zero_le _,s0⟩ ?_;rintro i h ⟨f,rfl,hf,s1⟩;unfold kS;refine ar (fun d=>?_) (fun d=>?_)
 ·have hlt:f < k.m.length:=by have:=of_decide_eq_true d; omega
  have hw:i64.wrap ((f:Int) + 1) = ((f + 1:Nat):Int):=by rw [aE (by omega) (by omega)]; rfl
  have hrow:=ok.mr _ (getElem_mem hlt);have hmx:=mixd_len k.m (replicate 16 (0:Int)) hf;have hmg:=mixd_get k.m (replicate 16 (0:Int)) hlt;refine aJ z.pm s1 (i:=6) rfl rfl rfl ?_;refine sM (sp_mem_Frame z.pm k.m f) (i:=7) rfl s1 fun r33 h2 s2=>?_;rw [frame_nat hlt] at s2;have hrl:=(aX (j:=0) s2 rfl).1;have r0:replicate 16 (0:Int) = ee k.m[f] 0 0:=by rw [sV,hrow]
  refine Lp.intro (fun (i:Int) h=>∃ j:Nat,i = j/\j <= 16/\ah (vU r33 k.m[f]::cpL zo z ⟨k.s,(ee k.m (replicate 16 0) f).set f (ee k.m[f] 0 j),replicate k.tabs.length (replicate 8 cc),ee (replicate k.pool.length (1:Int)) 0 f,oc⟩ k) h) (fun (i:Int) _=>16 - i.toNat) ⟨0,rfl,zero_le _,?_⟩ ?_
  ·rw [← r0,hG hmg]; exact s2
  rintro i h ⟨j,rfl,hj,s3⟩;unfold rn;refine ar (fun d2=>?_) (fun d2=>?_)
  ·have hlt2:j < 16:=by rw [hrl,hrow] at d2; have:=of_decide_eq_true d2; omega
   have hjl:j < k.m[f].length:=by omega
   have hw2:i64.wrap ((j:Int) + 1) = ((j + 1:Nat):Int):=by rw [aE (by omega) (by omega)]; rfl
   refine bE s3 (j:=0) rfl (by omega) (by omega) fun q hq=>?_;refine bK (j:=0) (i:=j) (k:=0) k.m[f][j] (bd _) s3 rfl hq (by simp) (al hjl) (by simp) ?_;refine bn (aJ zo.pm s3 (i:=1) rfl rfl rfl ?_);refine aW (lE zo.pm _ f j k.m[f][j]) (i:=2) rfl s3 fun r h4 hr s4=>?_;have es:(Mem.store ((ee k.m (replicate 16 0) f).set f (ee k.m[f] 0 j)) f j k.m[f][j]).2 = (ee k.m (replicate 16 0) f).set f (ee k.m[f] 0 (j + 1)):=by
    have hh:Mem.has ((ee k.m (replicate 16 0) f).set f (ee k.m[f] 0 j)) f j:=⟨by omega,by simp only [length_set,hmx]; omega,by omega,by omega⟩
    unfold Mem.store;rw [if_pos hh];unfold Mem.put;simp only [toNat_natCast];have hg:((ee k.m (replicate 16 0) f).set f (ee k.m[f] 0 j)).getD f [] = ee k.m[f] 0 j:=by rw [List.getD_eq_getElem?_getD,List.getElem?_set,if_pos rfl,if_pos (by rw [hmx]; exact hlt)]; rfl
    rw [hg,set_set,rp _ _ hjl]
   rw [es] at s4;rw [hw2];exact ⟨⟨j + 1,rfl,hlt2,s4⟩,by simp; omega⟩
  ·have:j = 16:=by rw [hrl,hrow] at d2; have:=of_decide_eq_false d2; omega
   subst this;have er:ee k.m[f] 0 16 = k.m[f]:=by have:=wM k.m[f] (0:Int); rw [hrow] at this; exact this
   rw [er,rp _ _ hlt] at s3;refine bn (aJ zo.pp s3 (i:=1) rfl rfl rfl ?_);refine aW (xi zo.pp _) (i:=5) rfl s3 fun r h4 hr s4=>?_;rw [take_mixd (by omega)] at s4;rw [hw];exact ⟨⟨f + 1,rfl,hlt,aT (l:=[vU r33 k.m[f]]) s4⟩,by simp; omega⟩
 ·have:f = k.m.length:=by have:=of_decide_eq_false d; omega
  subst this;have ea:ee (replicate k.pool.length (1:Int)) 0 k.m.length = replicate k.pool.length 1:=by
   have:=wM (replicate k.pool.length (1:Int)) 0;rw [length_replicate,hpm] at this;rw [hpm]; exact this
  rw [wM,ea] at s1;refine aJ k.s.fUa s1 (i:=6) rfl rfl rfl ?_;exact copy3 (o:=⟨k.s,k.m,replicate k.tabs.length (replicate 8 cc),replicate k.pool.length 1,oc⟩) ok ho hz rfl rfl rfl rfl oko sb s1
theorem three {s:dc} {z:PZ}:∀ (i:Nat) (v:Value),(ao.C s)[i]? = some v->(qj s z)[0 + 0 + i]? = some v:=by
 intro j v hv;have:j < 3:=(List.getElem?_eq_some_iff.1 hv).1
 match j,this with
 | 0,_=>exact hv
 | 1,_=>exact hv
 | 2,_=>exact hv
theorem uY (x:Ptr) (k:PK):Sp prog fL [pv x] cM [aO x k] (fun r=>ah [aO r k,aO x k]):=by
 intro h s0;obtain ⟨z,rfl,h1,ok,hl,st⟩:=eL s0;have hs:=cQ.1 ok.sz;refine sim_plain_Kernel_Copy _ ?_;unfold qV;refine bB rfl (bn ?_);refine ld_s (i:=0) k.s st rfl (fun i v hv=>by simpa using three i v hv) ?_;refine lW (sx k.s ok.sz) st fun r h2 s2=>?_;obtain ⟨zo,rfl,ho,okn,hlo,s3⟩:=eL s2;refine aJ k.s.fUa s3 (i:=6) rfl rfl rfl ?_;have e1:k.s.fUa.toNat = k.m.length:=by have:=ok.ml; omega
 have e2:k.s.fHa.toNat = k.tabs.length:=by have:=ok.tl; omega
 have e3:k.s.fUa.toNat = k.pool.length:=by have:=ok.pl; omega
 have e4:k.s.fHa.toNat = k.caps.length:=by have:=ok.cl; omega
 refine copy1 (o:=PK.new k.s) ok ?_ h1 rfl (by simp only [PK.new,e1]) (by simp only [PK.new,e2]) (by simp only [PK.new,e3]) okn.tree ⟨by simp only [PK.new,length_replicate,e4],fun e s hh=>.inl ?_⟩ s3
 ·rw [ho]; simp only [PK.new,length_replicate,e2]
 ·obtain ⟨a,b,rfl,rfl,ha,hb⟩:=fAa.has_nat hh;simp only [fAa.get,PK.new,e4,toNat_natCast,List.getD_eq_getElem?_getD,List.getElem?_replicate,if_pos ha,Option.getD_some,if_pos hb]
end
end Go.Proofs.YtjcamacgclipiaaGreatDoor
