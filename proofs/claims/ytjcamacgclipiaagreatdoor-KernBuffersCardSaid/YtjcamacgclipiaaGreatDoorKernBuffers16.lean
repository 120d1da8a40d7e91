/- Part of the proof of: The law KernBuffers returns true for every input, and leaves its arguments as they were. -/
import Derived.Test.YtjcamacgclipiaaGreatDoorKernBuffers15
set_option linter.all false
set_option maxRecDepth 20000
set_option maxHeartbeats 4000000
namespace Go.Proofs.YtjcamacgclipiaaGreatDoor
open Go.Proofs.Tryz
open Go.IntKind (i64 u64)
open _root_.Int (eq_ofNat_of_zero_le toNat_natCast)
open _root_.List (getElem?_append_right length_replicate mem_range range range_succ replicate)
open _root_.Nat (zero_le)
section
open Go Mb
attribute [local irreducible] bM gR il Val Tx Tu Tn RV Res br nn ix gd ld st nw cl clv dL Lp ct
def rb (a0:ao) (K:kT Ptr):hT:=hpv prog (Instr.build ay #[(0,(.agg (ao.C a0).toArray))]) encL fun (v4:(List Value))=>nw ay v4 fun b5=>K (some (b5,0))
theorem sim_messuageref13_New (a0:ao) {K:kT Ptr} {h:Hp} (H:rb a0 K h):cl prog mw [(.agg (ao.C a0).toArray)] df K h:=J [] func31 H
def jP (a0:Ptr) (a1:Int) (Rec2:kT (Int × Int)) (s1:Int × Int) (Rec7:kT (Int × Int)) (s6:Int × Int):hT:=br (decide (s6.2 < 8)) ( nn a0 fun q17=>gd (0 <= s1.2/\s1.2 < 4)<|gd (0 <= s6.2/\s6.2 < 8)<|ld (q17.1,q17.2 + 3 + Int.toNat s1.2 * 40 + Int.toNat s6.2 * 5 + 0) cB fun x22=>br x22 ( ld (q17.1,q17.2 + 3 + Int.toNat s1.2 * 40 + Int.toNat s6.2 * 5 + 1) (cI .i64) fun x32=>br (x32 == a1) ( Rec7 ((i64.wrap (s6.1 + 1)),(i64.wrap (s6.2 + 1)))) ( Rec7 (s6.1,(i64.wrap (s6.2 + 1))))) ( Rec7 (s6.1,(i64.wrap (s6.2 + 1))))) ( Rec2 (s6.1,(i64.wrap (s1.2 + 1))))
def jQ (a0:Ptr) (a1:Int) (K:kT Int) (Rec2:kT (Int × Int)) (s1:Int × Int):hT:=br (decide (s1.2 < 4)) ( Lp (jP a0 a1 Rec2 s1) (s1.1,0)) ( K s1.1)
def jJ (a0:Ptr) (a1:Int) (K:kT Int):hT:=Lp (jQ a0 a1 K) (0,0)
theorem qN (a0:Ptr) (a1:Int) {K:kT Int} {h:Hp} (H:jJ a0 a1 K h):cl prog dW [(pv a0),(.int .i64 a1)] cH K h:=have z0:LH (σ:=Int × Int) 3 0 (fun s1 r=>(5,(.int .i64 s1.1))::(8,(.int .i64 s1.2))::r) [5,8] [0,1] (fun _ l=>l):=⟨⟩; have z1:LH (σ:=Int × Int) 6 0 (fun s6 r=>(5,(.int .i64 s6.1))::(11,(.int .i64 s6.2))::r) [5,11] [0,1,6,8] (fun _ l=>l):=⟨⟩; J [] func63 H
def jT (a0:Ptr) (K:kT Sl) (Rec2:kT (Sl × Int)) (s1:Sl × Int):hT:=nn a0 fun q7=>ld (q7.1,q7.2 + 0 + 2) (cI .i64) fun x10=>br (decide (s1.2 < x10)) ( cl prog dW [(.pointer (some ⟨q7.1,q7.2,none⟩)),(.int .i64 s1.2)] cH fun r16=>br (r16 == 0) ( hpv prog (Instr.buildSlice aj 1 #[(0,(.int .i64 s1.2))]) av fun (v20:Sl)=>hpv prog (Builtin.append_ #[aj,aj] aj #[(sv s1.1),(sv v20)]) av fun (v21:Sl)=>Rec2 (v21,(i64.wrap (s1.2 + 1)))) ( Rec2 (s1.1,(i64.wrap (s1.2 + 1))))) ( K s1.1)
def jL (a0:Ptr) (K:kT Sl):hT:=Lp (jT a0 K) ((⟨none,0,0,none⟩:Sl),0)
theorem qP (a0:Ptr) {K:kT Sl} {h:Hp} (H:jL a0 K h):cl prog dX [(pv a0)] av K h:=have z0:LH (σ:=Sl × Int) 3 0 (fun s1 r=>(3,(sv s1.1))::(4,(.int .i64 s1.2))::r) [3,4] [0] (fun _ l=>l):=⟨⟩; J [] func22 H
def iG (a0:Ptr) (a1:Int) (a2:Int) (a3:Int) (a4:Int) (a5:Int) (K:kT Int):hT:=nn a0 fun q18=>gd (0 <= a1/\a1 < 4)<|gd (0 <= a2/\a2 < 8)<|gd (0 <= a3/\a3 < 4)<|gd (0 <= a4/\a4 < 8)<|ld (q18.1,q18.2 + 3 + Int.toNat a1 * 40 + Int.toNat a2 * 5) aq.C fun x22=>ld (q18.1,q18.2 + 3 + Int.toNat a3 * 40 + Int.toNat a4 * 5) aq.C fun x30=>br (!x22.fIs) ( K 3) ( br x30.fIs ( K 4) ( br (!(bp a5 x22.fCa)) ( K 5) ( cl prog dW [(.pointer (some ⟨q18.1,q18.2,none⟩)),(.int .i64 x22.fEa)] cH fun r48=>br (decide (r48 >= 7)) ( K 6) ( st (q18.1,q18.2 + 3 + Int.toNat a3 * 40 + Int.toNat a4 * 5) (aq.C (⟨true,x22.fEa,a5,a1,a2⟩:aq))<|K 0))))
theorem oV (a0:Ptr) (a1:Int) (a2:Int) (a3:Int) (a4:Int) (a5:Int) {K:kT Int} {h:Hp} (H:iG a0 a1 a2 a3 a4 a5 K h):cl prog dE [(pv a0),(.int .i64 a1),(.int .i64 a2),(.int .i64 a3),(.int .i64 a4),(.int .i64 a5)] aC K h:=have z0:OH 10 [0,4,8,12,16,20,24,28,32,36,40,44,48,54] .e []:=⟨⟩; have z1:OH 1 [0,4,8,32,36,40,12,16,44,48,20,24,52,56,29] (.t 15 16 17 [] (.b 16 17 [70,74,78] .e [66,74,78] .e) [] (.b 15 17 [70,74,78] .e [] (.b 15 18 [74,78] .e [61,78] .e)) [] (.b 15 16 [66,74,78] .e [] (.b 15 18 [74,78] .e [61,78] .e))) []:=⟨⟩; J [] func71 H
def jO (a0:Ptr) (a2:ae) (K:kT Bool) (Rec2:kT (Int × ae)) (s1:Int × ae):hT:=br (decide (s1.1 < 32)) ( nn a0 fun q18=>gd (0 <= s1.2.fBa/\s1.2.fBa < 4)<|gd (0 <= s1.2.fDa/\s1.2.fDa < 8)<|ld (q18.1,q18.2 + 3 + Int.toNat s1.2.fBa * 40 + Int.toNat s1.2.fDa * 5) aq.C fun x22=>br ((!x22.fIs) || (decide (x22.fBa < 0))) ( K false) ( br (ae.eqb (⟨x22.fBa,x22.fDa⟩:ae) a2) ( K true) ( Rec2 ((i64.wrap (s1.1 + 1)),(⟨x22.fBa,x22.fDa⟩:ae))))) ( K false)
def jH (a0:Ptr) (a1:ae) (a2:ae) (K:kT Bool):hT:=Lp (jO a0 a2 K) (0,a1)
theorem qL (a0:Ptr) (a1:ae) (a2:ae) {K:kT Bool} {h:Hp} (H:jH a0 a1 a2 K h):cl prog fU [(pv a0),(.agg (ae.C a1).toArray),(.agg (ae.C a2).toArray)] ai K h:=have z0:LH (σ:=Int × ae) 2 2 (fun s1 r=>(7,(.int .i64 s1.1))::r) [7] [0,4,5] (fun s1 l=>(setB l 1 (ae.C s1.2))):=⟨⟩; have z1:OH 4 [0,4,8,12,16,20,24,28,32,37,42,46] .e []:=⟨⟩; J [] func116 H
def jk (a0:Ptr) (a1:ae) (Rec2:kT (Sl × Int)) (s1:Sl × Int) (Rec7:kT (Sl × Int)) (s6:Sl × Int):hT:=br (decide (s6.2 < 8)) ( cl prog fU [(pv a0),(.agg (ae.C (⟨s1.2,s6.2⟩:ae)).toArray),(.agg (ae.C a1).toArray)] ai fun r21=>br r21 ( hpv prog (Instr.buildSlice bg 1 #[(0,(.agg (ae.C (⟨s1.2,s6.2⟩:ae)).toArray))]) bO fun (v24:Sl)=>hpv prog (Builtin.append_ #[bg,bg] bg #[(sv s6.1),(sv v24)]) bO fun (v25:Sl)=>Rec7 (v25,(i64.wrap (s6.2 + 1)))) ( Rec7 (s6.1,(i64.wrap (s6.2 + 1))))) ( Rec2 (s6.1,(i64.wrap (s1.2 + 1))))
def jl (a0:Ptr) (a1:ae) (K:kT Sl) (Rec2:kT (Sl × Int)) (s1:Sl × Int):hT:=br (decide (s1.2 < 4)) ( Lp (jk a0 a1 Rec2 s1) (s1.1,0)) ( K s1.1)
def ji (a0:Ptr) (a1:ae) (K:kT Sl):hT:=Lp (jl a0 a1 K) ((⟨none,0,0,none⟩:Sl),0)
theorem pX (a0:Ptr) (a1:ae) {K:kT Sl} {h:Hp} (H:ji a0 a1 K h):cl prog fD [(pv a0),(.agg (ae.C a1).toArray)] bO K h:=have z0:LH (σ:=Sl × Int) 3 1 (fun s1 r=>(5,(sv s1.1))::(9,(.int .i64 s1.2))::r) [5,9] [0,3] (fun _ l=>l):=⟨⟩; have z1:LH (σ:=Sl × Int) 6 1 (fun s6 r=>(5,(sv s6.1))::(12,(.int .i64 s6.2))::r) [5,12] [0,3,6,9] (fun _ l=>l):=⟨⟩; J [] func72 H
def cf (s1:Int) (q16:Nat × Nat) (q25:Nat × Nat) (Rec19:kT Int) (s18:Int) (s29:Bool):hT:=br s29 ( ld (q16.1,q16.2 + Int.toNat s1 * 2 + 0) (cI .i64) fun x62=>gd (0 <= x62/\x62 < 4)<|st (q25.1,q25.2 + 163 + Int.toNat x62 * 24 + Int.toNat s18 * 3) (ak.C (⟨0,0,0⟩:ak))<|Rec19 (i64.wrap (s18 + 1))) ( Rec19 (i64.wrap (s18 + 1)))
def jR (Rec2:kT Int) (s1:Int) (q16:Nat × Nat) (q25:Nat × Nat) (Rec19:kT Int) (s18:Int):hT:=br (decide (s18 < 8)) ( ld (q16.1,q16.2 + Int.toNat s1 * 2 + 0) (cI .i64) fun x37=>gd (0 <= x37/\x37 < 4)<|gd (0 <= s18/\s18 < 8)<|ld (q25.1,q25.2 + 163 + Int.toNat x37 * 24 + Int.toNat s18 * 3) ak.C fun x43=>ct (cf s1 q16 q25 Rec19 s18)<|br (x43.fCa != 0) ( ld (q16.1,q16.2 + Int.toNat s1 * 2 + 1) (cI .i64) fun x54=>cf s1 q16 q25 Rec19 s18 (x43.fDa == x54)) ( cf s1 q16 q25 Rec19 s18 false)) ( Rec2 (i64.wrap (s1 + 1)))
def jS (a0:Ptr) (a1:Sl) (K:kT Unit) (Rec2:kT Int) (s1:Int):hT:=br (decide (s1 < (a1.len:Int))) ( ix a1 s1 fun q16=>nn a0 fun q25=>ld (q16.1,q16.2 + Int.toNat s1 * 2 + 0) (cI .i64) fun x18=>gd (0 <= x18/\x18 < 4)<|ld (q16.1,q16.2 + Int.toNat s1 * 2 + 1) (cI .i64) fun x23=>gd (0 <= x23/\x23 < 8)<|st (q25.1,q25.2 + 3 + Int.toNat x18 * 40 + Int.toNat x23 * 5) (aq.C (⟨false,0,0,0,0⟩:aq))<|Lp (jR Rec2 s1 q16 q25) 0) ( K ())
def jK (a0:Ptr) (a1:Sl) (K:kT Unit):hT:=Lp (jS a0 a1 K) 0
theorem qO (a0:Ptr) (a1:Sl) {K:kT Unit} {h:Hp} (H:jK a0 a1 K h):cl prog fW [(pv a0),(sv a1)] R_ K h:=have z0:LH (σ:=Int) 1 0 (fun s1 r=>(4,(.int .i64 s1))::r) [4] [0,1] (fun _ l=>l):=⟨⟩; have z1:LH (σ:=Int) 5 0 (fun s18 r=>(29,(.int .i64 s18))::r) [29] [0,1,4] (fun _ l=>l):=⟨⟩; have z2:LH (σ:=Bool) 102009 1 (fun s29 r=>(56,(.bool s29))::r) [56] [0,1,4,5,29] (fun _ l=>l):=⟨⟩; have z3:OH 9 [0,4,8,12,16,24,28,32,36,21,40,44,50] .e []:=⟨⟩; have z4:OH 8 [0,4,8,12,16,20,24,28,32,36,41,44,48] .e []:=⟨⟩; have z5:OH 7 [0,4,8,12,16,24,28,32,21,36,40,45,50,54] .e []:=⟨⟩; have z6:OH 3 [0,4,8,24,28,44,12,16,32,36,48,52,21,56,41,60,66] .e []:=⟨⟩; J [2009] func73 H
def jh (a0:Ptr) (a1:Int) (a2:Int) (a3:aa) (K:kT Int):hT:=nn a0 fun q15=>gd (0 <= a1/\a1 < 4)<|gd (0 <= a3.e1/\a3.e1 < 8)<|br (a2 == 6) ( gd (0 <= a3.e2/\a3.e2 < 8)<|ld (q15.1,q15.2 + 3 + Int.toNat a1 * 40 + Int.toNat a3.e2 * 5) aq.C fun x30=>br (!x30.fIs) ( K 3) ( ld (q15.1,q15.2 + 163 + Int.toNat a1 * 24 + Int.toNat a3.e1 * 3 + 2) (cI .i64) fun x39=>br (x39 != 0) ( K 4) ( br (!(bp (i64.wrap a3.e3) x30.fCa)) ( K 5) ( st (q15.1,q15.2 + 163 + Int.toNat a1 * 24 + Int.toNat a3.e1 * 3) (ak.C (⟨x30.fEa,(i64.wrap a3.e2),(i64.wrap a3.e3)⟩:ak))<|K 0)))) ( br (a2 == 7) ( ld (q15.1,q15.2 + 163 + Int.toNat a1 * 24 + Int.toNat a3.e1 * 3 + 2) (cI .i64) fun x65=>br (x65 == 0) ( K 3) ( st (q15.1,q15.2 + 163 + Int.toNat a1 * 24 + Int.toNat a3.e1 * 3) (ak.C (⟨0,0,0⟩:ak))<|K 0)) ( ld (q15.1,q15.2 + 163 + Int.toNat a1 * 24 + Int.toNat a3.e1 * 3 + 2) (cI .i64) fun x73=>br (x73 == 0) ( K 3) ( ld (q15.1,q15.2 + 163 + Int.toNat a1 * 24 + Int.toNat a3.e1 * 3 + 1) (cI .i64) fun x83=>gd (0 <= x83/\x83 < 8)<|ld (q15.1,q15.2 + 3 + Int.toNat a1 * 40 + Int.toNat x83 * 5 + 2) (cI .i64) fun x89=>br (!(bp (i64.wrap a3.e2) x89)) ( K 5) ( st (q15.1,q15.2 + 163 + Int.toNat a1 * 24 + Int.toNat a3.e1 * 3 + 2) [.int .i64 (i64.wrap a3.e2)]<|K 0))))
theorem pW (a0:Ptr) (a1:Int) (a2:Int) (a3:aa) {K:kT Int} {h:Hp} (H:jh a0 a1 a2 a3 K h):cl prog fC [(pv a0),(.int .i64 a1),(.int .i64 a2),(.agg (aa.C a3).toArray)] aC K h:=have z0:OH 4 [0,4,8,12,16,20,24,28,33,38,42] .e []:=⟨⟩; have z1:OH 20 [0,4,8,12,16,20,24,28,36,40,44,33,48,52,57,62,64] .e []:=⟨⟩; have z2:OH 1 [0,4,8,12,16,20,24,28,32] .e []:=⟨⟩; J [] func74 H
def jI (a0:Ptr) (a1:Int) (a2:Int) (a3:aa) (K:kT Int):hT:=nn a0 fun q15=>gd (0 <= a1/\a1 < 16)<|gd (0 <= a3.e2/\a3.e2 < 16)<|ld (q15.1,q15.2 + 259 + Int.toNat a1 * 16 + Int.toNat a3.e2 * 1) (cI .u64) fun x21=>br (a2 == 21) ( st (q15.1,q15.2 + 259 + Int.toNat a1 * 16 + Int.toNat a3.e2 * 1) [.int .u64 a3.e3]<|K 0) ( br (a2 == 22) ( br (x21 == a3.e3) ( st (q15.1,q15.2 + 259 + Int.toNat a1 * 16 + Int.toNat a3.e2 * 1) [.int .u64 a3.e4]<|K x21) ( K x21)) ( br (a2 == 23) ( st (q15.1,q15.2 + 259 + Int.toNat a1 * 16 + Int.toNat a3.e2 * 1) [.int .u64 (u64.wrap (x21 + a3.e3))]<|K x21) ( K x21)))
theorem qM (a0:Ptr) (a1:Int) (a2:Int) (a3:aa) {K:kT Int} {h:Hp} (H:jI a0 a1 a2 a3 K h):cl prog fV [(pv a0),(.int .i64 a1),(.int .i64 a2),(.agg (aa.C a3).toArray)] eE K h:=have z0:OH 1 [0,4,8,12,16,20,24,28,32] .e []:=⟨⟩; J [] func77 H
def bq (K:kT (ad × Bool)) (s11:ad):hT:=K ((az 0).1,(az 0).2)
def dn (K:kT (ad × Bool)) (q33:Nat × Nat) (s54:Sl):hT:=cl prog fW [(.pointer (some ⟨q33.1,q33.2,none⟩)),(sv s54)] R_ fun (_:Unit)=>K ((⟨0,(u64.wrap (s54.len:Int))⟩:ad),true)
def cx (a1:Int) (a2:aa) (K:kT (ad × Bool)) (q33:Nat × Nat) (s61:Bool):hT:=br s61 ( cl prog fC [(.pointer (some ⟨q33.1,q33.2,none⟩)),(.int .i64 a1),(.int .i64 ((aB a2).1)),(.agg (aa.C a2).toArray)] aC fun r201=>K ((az r201).1,(az r201).2)) ( br (((aB a2).1) == 9) ( gd (0 <= a1/\a1 < 4)<|gd (0 <= a2.e1/\a2.e1 < 8)<|ld (q33.1,q33.2 + 3 + Int.toNat a1 * 40 + Int.toNat a2.e1 * 5) aq.C fun x215=>br (!x215.fIs) ( K ((az 3).1,(az 3).2)) ( br ((x215.fCa.tmod 2) == 0) ( K ((az 5).1,(az 5).2)) ( gd (0 <= x215.fEa/\x215.fEa < 16)<|gd (0 <= a2.e2/\a2.e2 < 16)<|ld (q33.1,q33.2 + 259 + Int.toNat x215.fEa * 16 + Int.toNat a2.e2 * 1) (cI .u64) fun x238=>br (!(eM (i64.wrap a2.e3) x238 a2.e4)) ( K ((⟨0,0⟩:ad),false)) ( K ((⟨0,x238⟩:ad),true))))) ( br (((aB a2).1) == 10) ( bq K (⟨0,0⟩:ad)) ( gd (0 <= a1/\a1 < 4)<|gd (0 <= a2.e1/\a2.e1 < 8)<|ld (q33.1,q33.2 + 163 + Int.toNat a1 * 24 + Int.toNat a2.e1 * 3) ak.C fun x58=>cl prog mt [(.int .i64 x58.fCa),(.int .i64 ((aB a2).1))] ai fun r62=>br (!r62) ( K ((az 7).1,(az 7).2)) ( cl prog fV [(.pointer (some ⟨q33.1,q33.2,none⟩)),(.int .i64 x58.fEa),(.int .i64 ((aB a2).1)),(.agg (aa.C a2).toArray)] eE fun r72=>K ((⟨0,r72⟩:ad),true)))))
def bX (a1:Int) (a2:aa) (K:kT (ad × Bool)) (q33:Nat × Nat) (s42:Bool):hT:=br s42 ( gd (0 <= a1/\a1 < 4)<|gd (0 <= a2.e1/\a2.e1 < 8)<|ld (q33.1,q33.2 + 3 + Int.toNat a1 * 40 + Int.toNat a2.e1 * 5 + 0) cB fun x172=>br (!x172) ( K ((az 3).1,(az 3).2)) ( cl prog fD [(.pointer (some ⟨q33.1,q33.2,none⟩)),(.agg (ae.C (⟨a1,(i64.wrap a2.e1)⟩:ae)).toArray)] bO fun r179=>ct (dn K q33)<|br (((aB a2).1) == 5) ( hpv prog (Instr.buildSlice bg 1 #[(0,(.agg (ae.C (⟨a1,(i64.wrap a2.e1)⟩:ae)).toArray))]) bO fun (v184:Sl)=>hpv prog (Builtin.append_ #[bg,bg] bg #[(sv r179),(sv v184)]) bO fun (v185:Sl)=>dn K q33 v185) ( dn K q33 r179))) ( ct (cx a1 a2 K q33)<|br (((aB a2).1) == 6) ( cx a1 a2 K q33 (((aB a2).1) == 6)) ( br (((aB a2).1) == 7) ( cx a1 a2 K q33 (((aB a2).1) == 7)) ( cx a1 a2 K q33 (((aB a2).1) == 8))))
def cy (a0:Ptr) (a1:Int) (a2:aa) (K:kT (ad × Bool)) (s1:Bool):hT:=br s1 ( K ((az 10).1,(az 10).2)) ( nn a0 fun q33=>ld (q33.1,q33.2 + 0 + 1) (cI .i64) fun x36=>cl prog la [(.agg (aa.C a2).toArray),(.int .i64 x36)] aC fun r37=>br (r37 != 0) ( K ((az r37).1,(az r37).2)) ( ct (bq K)<|br (((aB a2).1) == 1) ( cl prog dX [(.pointer (some ⟨q33.1,q33.2,none⟩))] av fun r77=>gd (0 <= a1/\a1 < 4)<|gd (0 <= a2.e1/\a2.e1 < 8)<|ld (q33.1,q33.2 + 3 + Int.toNat a1 * 40 + Int.toNat a2.e1 * 5 + 0) cB fun x87=>br x87 ( K ((az 4).1,(az 4).2)) ( br ((r77.len:Int) == 0) ( K ((az 6).1,(az 6).2)) ( ix r77 0 fun q99=>dL ( ld (q99.1,q99.2 + Int.toNat 0 * 1) (cI .i64) fun x100=>hpv prog (Instr.build fe #[]) encL fun (v101:(List Value))=>gd (0 <= x100/\x100 < 16)<|hpu prog (Instr.storeAt fe (.pointer (some ⟨q33.1,q33.2 + 259 + Int.toNat x100 * 16,none⟩)) (.agg v101.toArray))<|ld (q99.1,q99.2 + Int.toNat 0 * 1) (cI .i64) fun x111=>st (q33.1,q33.2 + 3 + Int.toNat a1 * 40 + Int.toNat a2.e1 * 5) (aq.C (⟨true,x111,3,(-1),0⟩:aq))<|bq K (⟨0,0⟩:ad)) ( hpv prog (Instr.build fe #[]) encL fun (v101:(List Value))=>ld (q99.1,q99.2 + Int.toNat 0 * 1) (cI .i64) fun x100=>gd (0 <= x100/\x100 < 16)<|hpu prog (Instr.storeAt fe (.pointer (some ⟨q33.1,q33.2 + 259 + Int.toNat x100 * 16,none⟩)) (.agg v101.toArray))<|ld (q99.1,q99.2 + Int.toNat 0 * 1) (cI .i64) fun x111=>st (q33.1,q33.2 + 3 + Int.toNat a1 * 40 + Int.toNat a2.e1 * 5) (aq.C (⟨true,x111,3,(-1),0⟩:aq))<|bq K (⟨0,0⟩:ad))))) ( br (((aB a2).1) == 2) ( cl prog dE [(.pointer (some ⟨q33.1,q33.2,none⟩)),(.int .i64 a1),(.int .i64 (i64.wrap a2.e1)),(.int .i64 a1),(.int .i64 (i64.wrap a2.e2)),(.int .i64 (i64.wrap a2.e3))] aC fun r131=>K ((az r131).1,(az r131).2)) ( br (((aB a2).1) == 3) ( cl prog dE [(.pointer (some ⟨q33.1,q33.2,none⟩)),(.int .i64 a1),(.int .i64 (i64.wrap a2.e1)),(.int .i64 (i64.wrap a2.e2)),(.int .i64 (i64.wrap a2.e3)),(.int .i64 (i64.wrap a2.e4))] aC fun r151=>K ((az r151).1,(az r151).2)) ( ct (bX a1 a2 K q33)<|br (((aB a2).1) == 4) ( bX a1 a2 K q33 (((aB a2).1) == 4)) ( bX a1 a2 K q33 (((aB a2).1) == 5)))))))
def kN (a0:Ptr) (a1:Int) (a2:aa) (K:kT (ad × Bool)):hT:=ct (cy a0 a1 a2 K)<|br (!(decide (a1 < 0))) ( nn a0 fun q22=>ld (q22.1,q22.2 + 0 + 1) (cI .i64) fun x25=>cy a0 a1 a2 K (decide (a1 >= x25))) ( cy a0 a1 a2 K true)
theorem sB (a0:Ptr) (a1:Int) (a2:aa) {K:kT (ad × Bool)} {h:Hp} (H:kN a0 a1 a2 K h):cl prog gP [(pv a0),(.int .i64 a1),(.agg (aa.C a2).toArray)] aD K h:=have z0:LH (σ:=Bool) 102002 2 (fun s1 r=>(27,(.bool s1))::r) [27] [0,1,5,6] (fun _ l=>l):=⟨⟩; have z1:LH (σ:=ad) 100049 2 (fun _ r=>r) [] [6] (fun s11 l=>(setB l 0 (ad.C s11))):=⟨⟩; have z2:OH 19 [0,4,8,12,16,20,32,36,40,25,28,44,50] .e []:=⟨⟩; have z3:OH 18 [0,4,20,24,8] (.b 3 4 [18,28,34] .e [13,28,34] .e) []:=⟨⟩; have z4:OH 14 [0,4,8,12,16,20,24,28,32,37] .e []:=⟨⟩; have z5:LH (σ:=Bool) 102026 2 (fun s42 r=>(155,(.bool s42))::r) [155] [0,1,5,6,9,49] (fun _ l=>l):=⟨⟩; have z6:LH (σ:=Sl) 100032 3 (fun s54 r=>(13,(sv s54))::r) [13] [0,6] (fun _ l=>l):=⟨⟩; have z7:OH 27 [0,4,8,12,16,20,24,28,32,37,40] .e []:=⟨⟩; have z8:LH (σ:=Bool) 102037 2 (fun s61 r=>(193,(.bool s61))::r) [193] [0,1,5,6,9,49] (fun _ l=>l):=⟨⟩; have z9:OH 44 [0,4,8,12,16,20,24,28,32,37,40] .e []:=⟨⟩; have z10:OH 39 [0,4,8,12,16,20,24,28,33,38,42] .e []:=⟨⟩; have z11:OH 8 [0,4,8,12,16,20,24,28,33,38,42] .e []:=⟨⟩; have z12:OH 3 [0,4,8,12,16,21,26,28] .e []:=⟨⟩; J [32,49,2002,2026,2037] func33 H
end
section
open Go Mb
abbrev RSlot:=aq
abbrev bf:=ae
def jp:RSlot:=⟨false,0,0,0,0⟩
structure RM where
 z:dc
 S:Nat->Nat->RSlot
 Q:Nat->Nat->Pte
 M:Nat->Nat->Int
structure RF (m:RM) (c:List Value):Prop where
 len:c.length = 515
 z0:c[0]? = some (.int .i64 m.z.fRa)
 z1:c[1]? = some (.int .i64 m.z.fHa)
 z2:c[2]? = some (.int .i64 m.z.fUa)
 sl:∀ e s:Nat,e < 4->s < 8->∀ (j:Nat) v,(aq.C (m.S e s))[j]? = some v->c[3 + e * 40 + s * 5 + j]? = some v
 pt:∀ e p:Nat,e < 4->p < 8->∀ (j:Nat) v,(ak.C (m.Q e p))[j]? = some v->c[163 + e * 24 + p * 3 + j]? = some v
 me:∀ f a:Nat,f < 16->a < 16->c[259 + f * 16 + a]? = some (.int .u64 (m.M f a))
def cj (x:Ptr) (m:RM):As:=fun h=>∃ z:Nat × List Value,(x = some (z.1,0)/\RF m z.2)/\ah [blk z.1 ay z.2] h
section
variable {x:Ptr} {m:RM} {l:List As} {h:Hp}
theorem ow (s:ah (cj x m::l) h):∃ b c,x = some (b,0)/\RF m c/\ah (blk b ay c::l) h:=by
 obtain ⟨⟨b,c⟩,⟨h1,h2⟩,st⟩:=op_ s;exact ⟨b,c,h1,h2,st⟩
theorem vq {b:Nat} {c:List Value} (H:RF m c) (s:ah (blk b ay c::l) h):ah (cj (some (b,0)) m::l) h:=cl_ (b,c) ⟨rfl,H⟩ s
end
theorem wr_get:∀ (vs c:List Value) (i n:Nat),i + vs.length <= c.length->(wr c i vs)[n]? = if i <= n/\n < i + vs.length then vs[n - i]? else c[n]?
 | vs,c,i,n,h=>by
  rw [wr_app _ _ _ h];have h1:(c.take i).length = i:=by rw [List.length_take]; omega
  by_cases h2:n < i
  ·rw [if_neg (by omega),List.append_assoc,List.getElem?_append_left (by omega),List.getElem?_take_of_lt h2]
  ·rw [List.append_assoc,getElem?_append_right (by omega),h1];by_cases h3:n < i + vs.length
   ·rw [if_pos ⟨by omega,h3⟩,List.getElem?_append_left (by omega)]
   ·rw [if_neg (by omega),getElem?_append_right (by omega),List.getElem?_drop]
    congr 1; omega
def RM.setS (m:RM) (e s:Nat) (x:RSlot):RM:={ m with S:=fun a b=>if a = e/\b = s then x else m.S a b }
def RM.setQ (m:RM) (e p:Nat) (x:Pte):RM:={ m with Q:=fun a b=>if a = e/\b = p then x else m.Q a b }
def RM.setM (m:RM) (f a:Nat) (x:Int):RM:={ m with M:=fun i j=>if i = f/\j = a then x else m.M i j }
theorem gZ (x:RSlot):(aq.C x).length = 5:=rfl
theorem fK (x:Pte):(ak.C x).length = 3:=rfl
theorem RF.setS {m:RM} {c:List Value} (H:RF m c) {e s:Nat} (he:e < 4) (hs:s < 8) (x:RSlot):RF (m.setS e s x) (wr c (3 + e * 40 + s * 5) (aq.C x)):=by
 have hl:=H.len;have hb:3 + e * 40 + s * 5 + (aq.C x).length <= c.length:=by rw [gZ]; omega
 have g:=wr_get (aq.C x) c (3 + e * 40 + s * 5);refine ⟨by rw [sQ]; exact hl,?_,?_,?_,fun a b ha hb' j v hv=>?_,fun a b ha hb' j v hv=>?_,fun a b ha hb'=>?_⟩
 ·rw [g _ hb,if_neg (by omega)]; exact H.z0
 ·rw [g _ hb,if_neg (by omega)]; exact H.z1
 ·rw [g _ hb,if_neg (by omega)]; exact H.z2
 ·have hj:j < 5:=by have:=(List.getElem?_eq_some_iff.1 hv).1; rw [gZ] at this; exact this
  rw [g _ hb,gZ];by_cases h:a = e/\b = s
  ·obtain ⟨rfl,rfl⟩:=h;have hv':(aq.C x)[j]? = some v:=by
    have:(m.setS a b x).S a b = x:=if_pos ⟨rfl,rfl⟩;rw [this] at hv; exact hv
   rw [if_pos (by omega),show 3 + a * 40 + b * 5 + j - (3 + a * 40 + b * 5) = j by omega]; exact hv'
  ·have:(m.setS e s x).S a b = m.S a b:=if_neg h;rw [this] at hv;rw [if_neg (by omega)]; exact H.sl a b ha hb' j v hv
 ·have hj:j < 3:=by have:=(List.getElem?_eq_some_iff.1 hv).1; rw [fK] at this; exact this
  rw [g _ hb,gZ,if_neg (by omega)]; exact H.pt a b ha hb' j v hv
 ·rw [g _ hb,gZ,if_neg (by omega)]; exact H.me a b ha hb'
theorem RF.setQ {m:RM} {c:List Value} (H:RF m c) {e p:Nat} (he:e < 4) (hp:p < 8) (x:Pte):RF (m.setQ e p x) (wr c (163 + e * 24 + p * 3) (ak.C x)):=by
 have hl:=H.len;have hb:163 + e * 24 + p * 3 + (ak.C x).length <= c.length:=by rw [fK]; omega
 have g:=wr_get (ak.C x) c (163 + e * 24 + p * 3);refine ⟨by rw [sQ]; exact hl,?_,?_,?_,fun a b ha hb' j v hv=>?_,fun a b ha hb' j v hv=>?_,fun a b ha hb'=>?_⟩
 ·rw [g _ hb,if_neg (by omega)]; exact H.z0
 ·rw [g _ hb,if_neg (by omega)]; exact H.z1
 ·rw [g _ hb,if_neg (by omega)]; exact H.z2
 ·have hj:j < 5:=by have:=(List.getElem?_eq_some_iff.1 hv).1; rw [gZ] at this; exact this
  rw [g _ hb,fK,if_neg (by omega)]; exact H.sl a b ha hb' j v hv
 ·have hj:j < 3:=by have:=(List.getElem?_eq_some_iff.1 hv).1; rw [fK] at this; exact this
  rw [g _ hb,fK];by_cases h:a = e/\b = p
  ·obtain ⟨rfl,rfl⟩:=h;have hv':(ak.C x)[j]? = some v:=by
    have:(m.setQ a b x).Q a b = x:=if_pos ⟨rfl,rfl⟩;rw [this] at hv; exact hv
   rw [if_pos (by omega),show 163 + a * 24 + b * 3 + j - (163 + a * 24 + b * 3) = j by omega]; exact hv'
  ·have:(m.setQ e p x).Q a b = m.Q a b:=if_neg h;rw [this] at hv;rw [if_neg (by omega)]; exact H.pt a b ha hb' j v hv
 ·rw [g _ hb,fK,if_neg (by omega)]; exact H.me a b ha hb'
theorem RF.setM {m:RM} {c:List Value} (H:RF m c) {f a:Nat} (hf:f < 16) (ha:a < 16) (x:Int):RF (m.setM f a x) (wr c (259 + f * 16 + a) [.int .u64 x]):=by
 have hl:=H.len;have hb:259 + f * 16 + a + [Value.int .u64 x].length <= c.length:=by simp; omega
 have g:=wr_get [Value.int .u64 x] c (259 + f * 16 + a);have h1:[Value.int .u64 x].length = 1:=rfl;refine ⟨by rw [sQ]; exact hl,?_,?_,?_,fun i b hi hb' j v hv=>?_,fun i b hi hb' j v hv=>?_,fun i b hi hb'=>?_⟩
 ·rw [g _ hb,if_neg (by omega)]; exact H.z0
 ·rw [g _ hb,if_neg (by omega)]; exact H.z1
 ·rw [g _ hb,if_neg (by omega)]; exact H.z2
 ·have hj:j < 5:=by have:=(List.getElem?_eq_some_iff.1 hv).1; rw [gZ] at this; exact this
  rw [g _ hb,h1,if_neg (by omega)]; exact H.sl i b hi hb' j v hv
 ·have hj:j < 3:=by have:=(List.getElem?_eq_some_iff.1 hv).1; rw [fK] at this; exact this
  rw [g _ hb,h1,if_neg (by omega)]; exact H.pt i b hi hb' j v hv
 ·rw [g _ hb,h1];by_cases h:i = f/\b = a
  ·obtain ⟨rfl,rfl⟩:=h;rw [if_pos (by omega),show 259 + i * 16 + b - (259 + i * 16 + b) = 0 by omega];show some (Value.int .u64 x) = some (.int .u64 ((m.setM i b x).M i b));rw [show (m.setM i b x).M i b = x from if_pos ⟨rfl,rfl⟩]
  ·rw [if_neg (by omega),show (m.setM f a x).M i b = m.M i b from if_neg h]; exact H.me i b hi hb'
section
variable {b:Nat} {c:List Value} {m:RM} {l:List As} {h:Hp} {j:Nat}
theorem rd_slot {K:RSlot->Hp->Prop} {e s off:Nat} (H:RF m c) (st:ah l h) (hj:l[j]? = some (blk b ay c)) (he:e < 4) (hs:s < 8) (ho:off = 3 + e * 40 + s * 5) (k:K (m.S e s) h):ld (b,off) aq.C K h:=by
 subst ho;exact ld_s (m.S e s) st hj (H.sl e s he hs) k
theorem rd_is {K:Bool->Hp->Prop} {e s off:Nat} (H:RF m c) (st:ah l h) (hj:l[j]? = some (blk b ay c)) (he:e < 4) (hs:s < 8) (ho:off = 3 + e * 40 + s * 5) (k:K (m.S e s).fIs h):ld (b,off) cB K h:=by
 subst ho;exact aJ (m.S e s).fIs st hj rfl (H.sl e s he hs 0 _ rfl) k
theorem rd_fr {K:Int->Hp->Prop} {e s off:Nat} (H:RF m c) (st:ah l h) (hj:l[j]? = some (blk b ay c)) (he:e < 4) (hs:s < 8) (ho:off = 3 + e * 40 + s * 5 + 1) (k:K (m.S e s).fEa h):ld (b,off) (cI .i64) K h:=by
 subst ho;exact aJ (m.S e s).fEa st hj rfl (H.sl e s he hs 1 _ rfl) k
theorem rd_rt {K:Int->Hp->Prop} {e s off:Nat} (H:RF m c) (st:ah l h) (hj:l[j]? = some (blk b ay c)) (he:e < 4) (hs:s < 8) (ho:off = 3 + e * 40 + s * 5 + 2) (k:K (m.S e s).fCa h):ld (b,off) (cI .i64) K h:=by
 subst ho;exact aJ (m.S e s).fCa st hj rfl (H.sl e s he hs 2 _ rfl) k
theorem rd_pte {K:Pte->Hp->Prop} {e p off:Nat} (H:RF m c) (st:ah l h) (hj:l[j]? = some (blk b ay c)) (he:e < 4) (hp:p < 8) (ho:off = 163 + e * 24 + p * 3) (k:K (m.Q e p) h):ld (b,off) ak.C K h:=by
 subst ho;exact ld_s (m.Q e p) st hj (H.pt e p he hp) k
theorem rd_prt {K:Int->Hp->Prop} {e p off:Nat} (H:RF m c) (st:ah l h) (hj:l[j]? = some (blk b ay c)) (he:e < 4) (hp:p < 8) (ho:off = 163 + e * 24 + p * 3 + 2) (k:K (m.Q e p).fCa h):ld (b,off) (cI .i64) K h:=by
 subst ho;exact aJ (m.Q e p).fCa st hj rfl (H.pt e p he hp 2 _ rfl) k
theorem rd_psl {K:Int->Hp->Prop} {e p off:Nat} (H:RF m c) (st:ah l h) (hj:l[j]? = some (blk b ay c)) (he:e < 4) (hp:p < 8) (ho:off = 163 + e * 24 + p * 3 + 1) (k:K (m.Q e p).fDa h):ld (b,off) (cI .i64) K h:=by
 subst ho;exact aJ (m.Q e p).fDa st hj rfl (H.pt e p he hp 1 _ rfl) k
theorem rd_mem {K:Int->Hp->Prop} {f a off:Nat} (H:RF m c) (st:ah l h) (hj:l[j]? = some (blk b ay c)) (hf:f < 16) (ha:a < 16) (ho:off = 259 + f * 16 + a) (k:K (m.M f a) h):ld (b,off) (cI .u64) K h:=by
 subst ho;exact aJ (m.M f a) st hj rfl (H.me f a hf ha) k
theorem rd_z {K:Int->Hp->Prop} {i off:Nat} {v:Int} (H:RF m c) (st:ah l h) (hj:l[j]? = some (blk b ay c)) (hv:c[i]? = some (.int .i64 v)) (ho:off = i) (k:K v h):ld (b,off) (cI .i64) K h:=by
 subst ho;exact aJ v st hj rfl hv k
end
def hasF (m:RM) (f:Int) (e s:Nat):Bool:=(m.S e s).fIs && ((m.S e s).fEa == f)
def rpre (m:RM) (f:Int) (i:Nat):Nat:=(range i).countP fun j=>hasF m f (j / 8) (j % 8)
theorem rpre_succ (m:RM) (f:Int) {e s:Nat} (hs:s < 8):rpre m f (8 * e + (s + 1)) = rpre m f (8 * e + s) + (if hasF m f e s then 1 else 0):=by
 show rpre m f (8 * e + s + 1) = _;unfold rpre;rw [range_succ,List.countP_append];have h1:(8 * e + s) / 8 = e:=by omega
 have h2:(8 * e + s) % 8 = s:=by omega
 simp [List.countP_cons,h1,h2]
theorem rpre_le (m:RM) (f:Int) (i:Nat):rpre m f i <= i:=by
 have:=List.countP_le_length (p:=fun j=>hasF m f (j / 8) (j % 8)) (l:=range i);rw [List.length_range] at this;exact this
def rcnt (m:RM) (f:Int):Nat:=rpre m f 32
theorem sp_ref_Refs (x:Ptr) (m:RM) (f:Int):Sp prog dW [pv x,.int .i64 f] cH [cj x m] (fun r=>pa_ (r = rcnt m f) [cj x m]):=by
 intro h s0;obtain ⟨b,c,rfl,H,s1⟩:=ow s0;refine qN _ _ ?_;unfold jJ;refine Lp.intro (fun (z:Int × Int) h=>∃ e:Nat,z = ((rpre m f (8 * e):Int),(e:Int))/\e <= 4/\ah [blk b ay c] h) (fun (z:Int × Int) _=>4 - z.2.toNat) ⟨0,rfl,zero_le _,s1⟩ ?_;rintro z h1 ⟨e,rfl,he,s2⟩;unfold jQ;simp only;refine ar (fun k=>?_) (fun k=>?_)
 ·have he4:e < 4:=by have:=of_decide_eq_true k; omega
  refine Lp.intro (fun (z:Int × Int) h=>∃ s:Nat,z = ((rpre m f (8 * e + s):Int),(s:Int))/\s <= 8/\ah [blk b ay c] h) (fun (z:Int × Int) _=>8 - z.2.toNat) ⟨0,rfl,zero_le _,s2⟩ ?_;rintro z h2 ⟨s,rfl,hs,s3⟩;have hle:=rpre_le m f (8 * e + s);unfold jP;simp only;refine ar (fun k2=>?_) (fun k2=>?_)
  ·have hs8:s < 8:=by have:=of_decide_eq_true k2; omega
   have hw:i64.wrap ((s:Int) + 1) = ((s + 1:Nat):Int):=by rw [aE (by omega) (by omega)]; rfl
   have hw2:i64.wrap ((rpre m f (8 * e + s):Int) + 1) = ((rpre m f (8 * e + s) + 1:Nat):Int):=by rw [aE (by omega) (by omega)]; rfl
   have hsu:=rpre_succ m f (e:=e) hs8;rw [hw,hw2];refine bn ⟨⟨by omega,by omega⟩,⟨by omega,by omega⟩,?_⟩;refine rd_is (j:=0) H s3 rfl he4 hs8 (by simp) ?_;refine ar (fun k3=>?_) (fun k3=>?_)
   ·refine rd_fr (j:=0) H s3 rfl he4 hs8 (by simp) ?_;refine ar (fun k4=>?_) (fun k4=>?_)
    ·rw [if_pos (by unfold hasF; rw [k3,k4]; rfl)] at hsu;exact ⟨⟨s + 1,by rw [hsu],hs8,s3⟩,by simp; omega⟩
    ·rw [if_neg (by unfold hasF; rw [k3,k4]; simp)] at hsu;exact ⟨⟨s + 1,by rw [hsu]; rfl,hs8,s3⟩,by simp; omega⟩
   ·rw [if_neg (by unfold hasF; rw [k3]; simp)] at hsu;exact ⟨⟨s + 1,by rw [hsu]; rfl,hs8,s3⟩,by simp; omega⟩
  ·have:s = 8:=by have:=of_decide_eq_false k2; omega
   subst this;have hw:i64.wrap ((e:Int) + 1) = ((e + 1:Nat):Int):=by rw [aE (by omega) (by omega)]; rfl
   rw [hw];exact ⟨⟨e + 1,by rw [show 8 * (e + 1) = 8 * e + 8 by omega],he4,s3⟩,by simp; omega⟩
 ·have:e = 4:=by have:=of_decide_eq_false k; omega
  subst this;exact aw rfl (vq H s2)
def ov (m:RM) (n:Nat):List Int:=((range n).filter fun i:Nat=>rcnt m i == 0).map fun i:Nat=>(i:Int)
def rfree (m:RM):List Int:=ov m m.z.fUa.toNat
theorem rfree_succ (m:RM) (n:Nat):ov m (n + 1) = ov m n++(if rcnt m n == 0 then [(n:Int)] else []):=by
 unfold ov;rw [range_succ,List.filter_append,List.map_append];by_cases h:rcnt m n == 0
 ·simp [h]
 ·simp [h]
theorem rfree_len (m:RM) (n:Nat):(ov m n).length <= n:=by
 unfold ov;rw [List.length_map];have:=List.length_filter_le (fun i=>rcnt m (i:Nat) == 0) (range n);rw [List.length_range] at this;exact this
theorem sp_ref_Free (x:Ptr) (m:RM) (hf:0 <= m.z.fUa/\m.z.fUa <= 16):Sp prog dX [pv x] av [cj x m] (fun r=>ah [vI r (rfree m),cj x m]):=by
 intro h s0;refine qP _ ?_;unfold jL;obtain ⟨F,hF⟩:=eq_ofNat_of_zero_le hf.1;refine Lp.intro (fun (z:Sl × Int) h=>∃ n:Nat,z.2 = n/\n <= F/\ah [vI z.1 (ov m n),cj x m] h) (fun (z:Sl × Int) _=>F - z.2.toNat) ⟨0,rfl,zero_le _,dp s0⟩ ?_;rintro ⟨y,i⟩ h1 ⟨n,rfl,hn,s2⟩;unfold jT;simp only;obtain ⟨b,c,rfl,H,s3⟩:=ow (aA [1] s2 rfl);have H2:=H.z2;rw [hF] at H2;refine bn ?_;refine rd_z (j:=0) (i:=2) H s3 rfl H2 (by simp) ?_;refine ar (fun k=>?_) (fun k=>?_)
 ·have hlt:n < F:=by have:=of_decide_eq_true k; omega
  have hw:i64.wrap ((n:Int) + 1) = ((n + 1:Nat):Int):=by rw [aE (by omega) (by omega)]; rfl
  have hle:=rfree_len m n;rw [hw];refine aW (i:=1) (sp_ref_Refs (some (b,0)) m n) rfl s2 fun r h2 hr s4=>?_;subst hr;have s4:ah [vI y (ov m n),cj (some (b,0)) m] h2:=s4;have hsu:=rfree_succ m n;refine ar (fun k2=>?_) (fun k2=>?_)
  ·have k4:((rcnt m n:Nat):Int) = 0:=by simpa using k2
   have k3:(rcnt m n == 0) = true:=by simpa using k4
   rw [k3,if_pos rfl] at hsu;refine sW s4 (i:=0) rfl (by omega) fun v h3 s5=>?_;refine ⟨⟨n + 1,rfl,hlt,?_⟩,by simp; omega⟩;rw [hsu]; exact s5
  ·have k3:(rcnt m n == 0) = false:=by
    have:((rcnt m n:Nat):Int) ≠ 0:=by simpa using k2
    simpa using this
   rw [k3] at hsu;refine ⟨⟨n + 1,rfl,hlt,?_⟩,by simp; omega⟩;rw [hsu]; simpa using s4
 ·have:n = F:=by have:=of_decide_eq_false k; omega
  subst this;have e:rfree m = ov m n:=by unfold rfree; rw [hF]; rfl
  rw [e];exact s2
end
section
open Go Mb
structure RW (m:RM):Prop where
 par:∀ e s:Nat,e < 4->s < 8->(m.S e s).fIs = true->0 <= (m.S e s).fBa->(m.S e s).fBa < 4/\0 <= (m.S e s).fDa/\(m.S e s).fDa < 8
 fr:∀ e s:Nat,e < 4->s < 8->(m.S e s).fIs = true->0 <= (m.S e s).fEa/\(m.S e s).fEa < 16
 qs:∀ e p:Nat,e < 4->p < 8->(m.Q e p).fCa ≠ 0->0 <= (m.Q e p).fDa/\(m.Q e p).fDa < 8
 qf:∀ e p:Nat,e < 4->p < 8->(m.Q e p).fCa ≠ 0->0 <= (m.Q e p).fEa/\(m.Q e p).fEa < 16
 en:1 <= m.z.fHa/\m.z.fHa <= 4
 fn:0 <= m.z.fUa/\m.z.fUa <= 16
def dq (m:RM) (e s te ts:Nat) (r:Int):Int × RM :=
 if (m.S e s).fIs = false then (3,m) else if (m.S te ts).fIs = true then (4,m) else if bp r (m.S e s).fCa = false then (5,m)
 else if (rcnt m (m.S e s).fEa:Int) >= 7 then (6,m) else (0,m.setS te ts ⟨true,(m.S e s).fEa,r,e,s⟩)
theorem sp_ref_derive (x:Ptr) (m:RM) (e s te ts:Nat) (r:Int) (h1:e < 4) (h2:s < 8) (h3:te < 4) (h4:ts < 8):Sp prog dE [pv x,.int .i64 e,.int .i64 s,.int .i64 te,.int .i64 ts,.int .i64 r] aC [cj x m] (fun v=>pa_ (v = (dq m e s te ts r).1) [cj x (dq m e s te ts r).2]):=by
 intro h s0;refine oV _ _ _ _ _ _ ?_;unfold iG;obtain ⟨b,c,rfl,H,s1⟩:=ow s0;refine bn ⟨⟨by omega,by omega⟩,⟨by omega,by omega⟩,⟨by omega,by omega⟩,⟨by omega,by omega⟩,?_⟩;refine rd_slot (j:=0) H s1 rfl h1 h2 (by simp) ?_;refine rd_slot (j:=0) H s1 rfl h3 h4 (by simp) ?_;refine ar (fun k=>?_) (fun k=>?_)
 ·have k':(m.S e s).fIs = false:=by simpa using k
  have er:dq m e s te ts r = (3,m):=if_pos k';rw [er]; exact aw rfl s0
 have k1:¬ (m.S e s).fIs = false:=by simpa using k
 refine ar (fun k=>?_) (fun k=>?_)
 ·have er:dq m e s te ts r = (4,m):=by unfold dq; rw [if_neg k1,if_pos k]
  rw [er]; exact aw rfl s0
 have k2:¬ (m.S te ts).fIs = true:=by rw [k]; simp
 refine ar (fun k=>?_) (fun k=>?_)
 ·have er:dq m e s te ts r = (5,m):=by unfold dq; rw [if_neg k1,if_neg k2,if_pos (by simpa using k)]
  rw [er]; exact aw rfl s0
 have k3:¬ bp r (m.S e s).fCa = false:=by simpa using k
 refine aW (i:=0) (sp_ref_Refs (some (b,0)) m (m.S e s).fEa) rfl s0 fun v h5 hv s5=>?_;subst hv;have s5:ah [cj (some (b,0)) m] h5:=s5;refine ar (fun k=>?_) (fun k=>?_)
 ·have er:dq m e s te ts r = (6,m):=by unfold dq; rw [if_neg k1,if_neg k2,if_neg k3,if_pos (of_decide_eq_true k)]
  rw [er]; exact aw rfl s5
 have er:dq m e s te ts r = (0,m.setS te ts ⟨true,(m.S e s).fEa,r,e,s⟩):=by unfold dq; rw [if_neg k1,if_neg k2,if_neg k3,if_neg (of_decide_eq_false k)]
 rw [er];obtain ⟨b',c',hbb,H',s6⟩:=ow s5;cases hbb;have e1:0 + 3 + Int.toNat (te:Int) * 40 + Int.toNat (ts:Int) * 5 = 3 + te * 40 + ts * 5:=by simp
 refine mX (i:=0) s6 rfl (by rw [gZ,H'.len]; simp; omega) fun h7 s7=>?_;have s7:ah [blk b ay (wr c' (0 + 3 + Int.toNat (te:Int) * 40 + Int.toNat (ts:Int) * 5) (aq.C ⟨true,(m.S e s).fEa,r,e,s⟩))] h7:=s7;rw [e1] at s7;exact aw rfl (vq (H'.setS h3 h4 _) s7)
def wE (m:RM) (q:bf):Nat->bf->Bool
 | 0,_=>false
 | n + 1,p=>if (m.S p.fBa.toNat p.fDa.toNat).fIs = false\/(m.S p.fBa.toNat p.fDa.toNat).fBa < 0 then false
  else if ae.eqb ⟨(m.S p.fBa.toNat p.fDa.toNat).fBa,(m.S p.fBa.toNat p.fDa.toNat).fDa⟩ q = true then true
  else wE m q n ⟨(m.S p.fBa.toNat p.fDa.toNat).fBa,(m.S p.fBa.toNat p.fDa.toNat).fDa⟩
def bf.in_ (p:bf):Prop:=0 <= p.fBa/\p.fBa < 4/\0 <= p.fDa/\p.fDa < 8
theorem sp_ref_from (x:Ptr) (m:RM) (W:RW m) (p q:bf) (hp:bf.in_ p):Sp prog fU [pv x,.agg (ae.C p).toArray,.agg (ae.C q).toArray] ai [cj x m] (fun v=>pa_ (v = wE m q 32 p) [cj x m]):=by
 intro h s0;refine qL _ _ _ ?_;unfold jH;refine Lp.intro (fun (z:Int × bf) h=>∃ n:Nat,z.1 = n/\n <= 32/\bf.in_ z.2/\wE m q (32 - n) z.2 = wE m q 32 p/\ah [cj x m] h) (fun (z:Int × bf) _=>32 - z.1.toNat) ⟨0,rfl,by decide,hp,rfl,s0⟩ ?_;rintro ⟨i,p1⟩ h1 ⟨n,rfl,hn,hp1,he,s1⟩;simp only at hp1 he;unfold jO;simp only;refine ar (fun k=>?_) (fun k=>?_)
 ·have hlt:n < 32:=by have:=of_decide_eq_true k; omega
  have hw:i64.wrap ((n:Int) + 1) = ((n + 1:Nat):Int):=by rw [aE (by omega) (by omega)]; rfl
  obtain ⟨a1,a2,a3,a4⟩:=hp1;obtain ⟨b,c,rfl,H,s2⟩:=ow s1;refine bn ⟨⟨a1,a2⟩,⟨a3,a4⟩,?_⟩;refine rd_slot (j:=0) (e:=p1.fBa.toNat) (s:=p1.fDa.toNat) H s2 rfl (by omega) (by omega) (by simp) ?_;rw [show 32 - n = (32 - (n + 1)) + 1 by omega,wE] at he;refine ar (fun k2=>?_) (fun k2=>?_)
  ·have k3:(m.S p1.fBa.toNat p1.fDa.toNat).fIs = false\/(m.S p1.fBa.toNat p1.fDa.toNat).fBa < 0:=by simpa using k2
   rw [if_pos k3] at he;exact aw he s1
  ·have k3:¬ ((m.S p1.fBa.toNat p1.fDa.toNat).fIs = false\/(m.S p1.fBa.toNat p1.fDa.toNat).fBa < 0):=by
    intro hx;have:((!(m.S p1.fBa.toNat p1.fDa.toNat).fIs) || (decide ((m.S p1.fBa.toNat p1.fDa.toNat).fBa < 0))) = true:=by simpa using hx
    rw [this] at k2; cases k2
   rw [if_neg k3] at he;refine ar (fun k4=>?_) (fun k4=>?_)
   ·rw [if_pos k4] at he;exact aw he s1
   ·rw [if_neg (by rw [k4]; simp)] at he;have hpar:=W.par p1.fBa.toNat p1.fDa.toNat (by omega) (by omega) (by
     cases hh:(m.S p1.fBa.toNat p1.fDa.toNat).fIs with
     | true=>rfl
     | false=>exact absurd (.inl hh) k3) (by
     have:¬ (m.S p1.fBa.toNat p1.fDa.toNat).fBa < 0:=fun hh=>k3 (.inr hh);omega)
    have hge:0 <= (m.S p1.fBa.toNat p1.fDa.toNat).fBa:=by
     have:¬ (m.S p1.fBa.toNat p1.fDa.toNat).fBa < 0:=fun hh=>k3 (.inr hh);omega
    rw [hw];exact ⟨⟨n + 1,rfl,hlt,⟨hge,hpar.1,hpar.2.1,hpar.2.2⟩,he,s1⟩,by simp; omega⟩
 ·have:n = 32:=by have:=of_decide_eq_false k; omega
  subst this;exact aw he s1
def pl (i:Nat):bf:=⟨((i / 8:Nat):Int),((i % 8:Nat):Int)⟩
def iH (m:RM) (q:bf) (n:Nat):List bf:=((range n).filter fun i=>wE m q 32 (pl i)).map pl
def mg (m:RM) (q:bf):List bf:=iH m q 32
theorem rbelow_succ (m:RM) (q:bf) {e s:Nat} (hs:s < 8):iH m q (8 * e + (s + 1)) = iH m q (8 * e + s)++(if wE m q 32 ⟨e,s⟩ then [⟨e,s⟩] else []):=by
 show iH m q (8 * e + s + 1) = _;unfold iH;have h0:pl (8 * e + s) = ⟨e,s⟩:=by
  unfold pl;have h1:(8 * e + s) / 8 = e:=by omega
  have h2:(8 * e + s) % 8 = s:=by omega
  rw [h1,h2]
 rw [range_succ,List.filter_append,List.map_append];by_cases h:wE m q 32 ⟨e,s⟩ = true
 ·simp [h0,h]
 ·simp [h0,h]
theorem rbelow_len (m:RM) (q:bf) (n:Nat):(iH m q n).length <= n:=by
 unfold iH;rw [List.length_map];have:=List.length_filter_le (fun i=>wE m q 32 (pl i)) (range n);rw [List.length_range] at this;exact this
abbrev vR (s:Sl) (l:List bf):As:=vec oY 2 ae.C s l
theorem qa (x:bf):(ae.C x).length = 2:=rfl
theorem rplace_one (x:bf):ce (ae.C x) = true:=rfl
theorem append1_p {l:List As} {h:Hp} {i:Nat} {s:Sl} {xs:List bf} {x:bf} {K:Sl->Hp->Prop} (st:ah l h) (hi:l[i]? = some (vR s xs)) (hb:xs.length < 2 ^ 30) (k:∀ v h',ah (l.set i (vR v (xs++[x]))) h'->K v h') :
  hpv prog (Instr.buildSlice bg 1 #[(0,.agg (ae.C x).toArray)]) bO (fun y=>hpv prog (Builtin.append_ #[bg,bg] bg #[sv s,sv y]) bO K) h :=
 iX (τ:=bf) (i:=i) (enc:=ae.C) (val:=fun x=>.agg (ae.C x).toArray) wS qa rplace_one (fun _=>rfl) (by omega) rfl rfl st hi (by omega) (by omega) k
theorem sp_ref_Below (x:Ptr) (m:RM) (W:RW m) (q:bf):Sp prog fD [pv x,.agg (ae.C q).toArray] bO [cj x m] (fun r=>ah [vR r (mg m q),cj x m]):=by
 intro h s0;refine pX _ _ ?_;unfold ji;refine Lp.intro (fun (z:Sl × Int) h=>∃ e:Nat,z.2 = e/\e <= 4/\ah [vR z.1 (iH m q (8 * e)),cj x m] h) (fun (z:Sl × Int) _=>4 - z.2.toNat) ⟨0,rfl,zero_le _,dp s0⟩ ?_;rintro ⟨y,i⟩ h1 ⟨e,rfl,he,s1⟩;unfold jl;simp only;refine ar (fun k=>?_) (fun k=>?_)
 ·have he4:e < 4:=by have:=of_decide_eq_true k; omega
  refine Lp.intro (fun (z:Sl × Int) h=>∃ s:Nat,z.2 = s/\s <= 8/\ah [vR z.1 (iH m q (8 * e + s)),cj x m] h) (fun (z:Sl × Int) _=>8 - z.2.toNat) ⟨0,rfl,zero_le _,s1⟩ ?_;rintro ⟨y2,i2⟩ h2 ⟨s,rfl,hs,s2⟩;unfold jk;simp only;have hle:=rbelow_len m q (8 * e + s);refine ar (fun k2=>?_) (fun k2=>?_)
  ·have hs8:s < 8:=by have:=of_decide_eq_true k2; omega
   have hw:i64.wrap ((s:Int) + 1) = ((s + 1:Nat):Int):=by rw [aE (by omega) (by omega)]; rfl
   have hsu:=rbelow_succ m q (e:=e) hs8;rw [hw];refine aW (i:=1) (sp_ref_from x m W ⟨e,s⟩ q ⟨by show (0:Int) <= e; omega,by show (e:Int) < 4; omega,by show (0:Int) <= s; omega,by show (s:Int) < 8; omega⟩) rfl s2 fun r h3 hr s3=>?_;subst hr;have s3:ah [vR y2 (iH m q (8 * e + s)),cj x m] h3:=s3;refine ar (fun k3=>?_) (fun k3=>?_)
   ·rw [if_pos k3] at hsu;refine append1_p s3 (i:=0) rfl (by omega) fun v h4 s4=>?_;refine ⟨⟨s + 1,rfl,hs8,?_⟩,by simp; omega⟩;rw [hsu]; exact s4
   ·rw [if_neg (by rw [k3]; simp),List.append_nil] at hsu;refine ⟨⟨s + 1,rfl,hs8,?_⟩,by simp; omega⟩;rw [hsu]; exact s3
  ·have:s = 8:=by have:=of_decide_eq_false k2; omega
   subst this;have hw:i64.wrap ((e:Int) + 1) = ((e + 1:Nat):Int):=by rw [aE (by omega) (by omega)]; rfl
   rw [hw];refine ⟨⟨e + 1,rfl,he4,?_⟩,by simp; omega⟩;rw [show 8 * (e + 1) = 8 * e + 8 by omega]; exact s2
 ·have:e = 4:=by have:=of_decide_eq_false k; omega
  subst this;exact s1
def qb (m:RM) (e:Nat) (sl:Int) (n:Nat):RM:={ m with Q:=fun a p=>if a = e/\p < n/\(m.Q a p).fCa ≠ 0/\(m.Q a p).fDa = sl then ⟨0,0,0⟩ else m.Q a p }
def vp (m:RM) (p:bf):RM:=qb (m.setS p.fBa.toNat p.fDa.toNat jp) p.fBa.toNat p.fDa 8
def lZ (m:RM) (l:List bf):RM:=l.foldl vp m
theorem rgoneQ_zero (m:RM) (e:Nat) (sl:Int):qb m e sl 0 = m:=by
 unfold qb;simp
theorem rgoneQ_hit {m:RM} {e n:Nat} {sl:Int} (h:(m.Q e n).fCa ≠ 0/\(m.Q e n).fDa = sl):(qb m e sl n).setQ e n ⟨0,0,0⟩ = qb m e sl (n + 1):=by
 unfold qb RM.setQ;simp only [RM.mk.injEq,true_and,and_true];funext a p;by_cases h1:a = e/\p = n
 ·obtain ⟨rfl,rfl⟩:=h1;rw [if_pos ⟨rfl,rfl⟩,if_pos ⟨rfl,by omega,h.1,h.2⟩]
 ·rw [if_neg h1];by_cases h2:a = e/\p < n/\(m.Q a p).fCa ≠ 0/\(m.Q a p).fDa = sl
  ·rw [if_pos h2,if_pos ⟨h2.1,by omega,h2.2.2⟩]
  ·rw [if_neg h2,if_neg (fun h3=>h2 ⟨h3.1,by
    rcases Nat.lt_or_ge p n with h4 | h4
    ·exact h4
    ·exact absurd ⟨h3.1,by omega⟩ h1,h3.2.2⟩)]
theorem rgoneQ_miss {m:RM} {e n:Nat} {sl:Int} (h:¬ ((m.Q e n).fCa ≠ 0/\(m.Q e n).fDa = sl)):qb m e sl n = qb m e sl (n + 1):=by
 unfold qb;simp only [RM.mk.injEq,true_and,and_true];funext a p;by_cases h2:a = e/\p < n/\(m.Q a p).fCa ≠ 0/\(m.Q a p).fDa = sl
 ·rw [if_pos h2,if_pos ⟨h2.1,by omega,h2.2.2⟩]
 ·rw [if_neg h2,if_neg];rintro ⟨h3,h4,h5⟩;rcases Nat.lt_or_ge p n with h6 | h6
  ·exact h2 ⟨h3,h6,h5⟩
  ·have:p = n:=by omega
   subst this; subst h3;exact h h5
theorem rgoneQ_at {m:RM} {e n:Nat} {sl:Int}:(qb m e sl n).Q e n = m.Q e n:=by
 show (if e = e/\n < n/\_ then _ else _) = _;rw [if_neg (fun h=>absurd h.2.1 (Nat.lt_irrefl _))]
theorem sp_ref_Gone (x:Ptr) (m:RM) (y:Sl) (l:List bf) (hl:∀ p ∈ l,bf.in_ p) (hb:l.length < 2 ^ 30) (hx:x ≠ none):Sp prog fW [pv x,sv y] R_ [cj x m,vR y l] (fun _=>ah [cj x (lZ m l),vR y l]):=by
 intro h s0;refine qO _ _ ?_;unfold jK;have hyl:=(aX (j:=1) s0 rfl).1;refine Lp.intro (fun (z:Int) h=>∃ n:Nat,z = n/\n <= l.length/\ah [cj x (lZ m (l.take n)),vR y l] h) (fun (z:Int) _=>l.length - z.toNat) ⟨0,rfl,zero_le _,s0⟩ ?_;rintro z h1 ⟨n,rfl,hn,s1⟩;unfold jS;refine ar (fun k=>?_) (fun k=>?_)
 ·have hlt:n < l.length:=by rw [hyl] at k; simpa using k
  have hw:i64.wrap ((n:Int) + 1) = ((n + 1:Nat):Int):=by rw [aE (by omega) (by omega)]; rfl
  obtain ⟨a1,a2,a3,a4⟩:=hl l[n] (List.getElem_mem hlt);obtain ⟨b,c,rfl,H,s2⟩:=ow s1;have s2:ah [blk b ay c,vR y l] h1:=s2;refine bE s2 (j:=1) rfl (by omega) (by omega) fun q hq=>?_;refine bn ?_;refine bK (j:=1) (i:=n) (k:=0) l[n].fBa qa s2 rfl hq rfl (al hlt) (c1 rfl rfl) ?_;refine ⟨⟨a1,a2⟩,?_⟩;refine bK (j:=1) (i:=n) (k:=1) l[n].fDa qa s2 rfl hq rfl (al hlt) (c1 rfl rfl) ?_;refine ⟨⟨a3,a4⟩,?_⟩;refine mX (i:=0) s2 rfl (by rw [gZ,H.len]; simp; omega) fun h3 s3=>?_;have e1:0 + 3 + Int.toNat l[n].fBa * 40 + Int.toNat l[n].fDa * 5 = 3 + l[n].fBa.toNat * 40 + l[n].fDa.toNat * 5:=by simp
  have s3:ah [blk b ay (wr c (0 + 3 + Int.toNat l[n].fBa * 40 + Int.toNat l[n].fDa * 5) (aq.C jp)),vR y l] h3:=s3;rw [e1] at s3;have H1:=H.setS (e:=l[n].fBa.toNat) (s:=l[n].fDa.toNat) (by omega) (by omega) jp;obtain ⟨m1,hm1⟩:∃ m1,m1 = (lZ m (l.take n)).setS l[n].fBa.toNat l[n].fDa.toNat jp:=⟨_,rfl⟩
  rw [← hm1] at H1;have htk:lZ m (l.take (n + 1)) = qb m1 l[n].fBa.toNat l[n].fDa 8:=by
   rw [List.take_succ_eq_append_getElem hlt];unfold lZ;rw [List.foldl_append,hm1]
   rfl
  have s4:=vq H1 s3;refine Lp.intro (fun (z:Int) h=>∃ p:Nat,z = p/\p <= 8/\ah [cj (some (b,0)) (qb m1 l[n].fBa.toNat l[n].fDa p),vR y l] h) (fun (z:Int) _=>8 - z.toNat) ⟨0,rfl,zero_le _,by rw [rgoneQ_zero]; exact s4⟩ ?_;rintro z h5 ⟨p,rfl,hp,s5⟩;unfold jR;rw [hw];refine ar (fun k2=>?_) (fun k2=>?_)
  ·have hp8:p < 8:=by have:=of_decide_eq_true k2; omega
   have hwp:i64.wrap ((p:Int) + 1) = ((p + 1:Nat):Int):=by rw [aE (by omega) (by omega)]; rfl
   obtain ⟨b2,c2,hbb,H2,s6⟩:=ow s5;cases hbb;have s6:ah [blk b ay c2,vR y l] h5:=s6;refine bK (j:=1) (i:=n) (k:=0) l[n].fBa qa s6 rfl hq rfl (al hlt) (c1 rfl rfl) ?_;refine ⟨⟨a1,a2⟩,⟨by omega,by omega⟩,?_⟩;refine rd_pte (j:=0) (e:=l[n].fBa.toNat) (p:=p) H2 s6 rfl (by omega) hp8 (by simp) ?_;rw [rgoneQ_at];have miss:¬ ((m1.Q l[n].fBa.toNat p).fCa ≠ 0/\(m1.Q l[n].fBa.toNat p).fDa = l[n].fDa)->cf (n:Int) q (b,0) (fun (s':Int) h'=>(∃ p:Nat,s' = p/\p <= 8/\ah [cj (some (b,0)) (qb m1 l[n].fBa.toNat l[n].fDa p),vR y l] h')/\8 - s'.toNat < 8 - ((p:Nat):Int).toNat) (p:Int) false h5:=by
    intro hno;unfold cf;rw [hwp];refine bB rfl ⟨⟨p + 1,rfl,hp8,?_⟩,by simp only [toNat_natCast]; omega⟩;rw [← rgoneQ_miss hno]; exact s5
   refine ar (fun k3=>?_) (fun k3=>?_)
   ·have k3':(m1.Q l[n].fBa.toNat p).fCa ≠ 0:=by simpa using k3
    refine bK (j:=1) (i:=n) (k:=1) l[n].fDa qa s6 rfl hq rfl (al hlt) (c1 rfl rfl) ?_;cases hk4:((m1.Q l[n].fBa.toNat p).fDa == l[n].fDa) with
    | false=>exact miss (fun hh=>by
      have:((m1.Q l[n].fBa.toNat p).fDa == l[n].fDa) = true:=by rw [hh.2]; simp
      rw [this] at hk4; cases hk4)
    | true =>
     have k4:(m1.Q l[n].fBa.toNat p).fDa = l[n].fDa:=by simpa using hk4
     unfold cf;rw [hwp];refine cg rfl ?_;refine bK (j:=1) (i:=n) (k:=0) l[n].fBa qa s6 rfl hq rfl (al hlt) (c1 rfl rfl) ?_;refine ⟨⟨a1,a2⟩,?_⟩;refine mX (i:=0) s6 rfl (by rw [fK,H2.len]; simp; omega) fun h7 s7=>?_;have e2:0 + 163 + Int.toNat l[n].fBa * 24 + Int.toNat (p:Int) * 3 = 163 + l[n].fBa.toNat * 24 + p * 3:=by simp
     have s7:ah [blk b ay (wr c2 (0 + 163 + Int.toNat l[n].fBa * 24 + Int.toNat (p:Int) * 3) (ak.C ⟨0,0,0⟩)),vR y l] h7:=s7;rw [e2] at s7;have H3:=H2.setQ (e:=l[n].fBa.toNat) (p:=p) (by omega) hp8 ⟨0,0,0⟩;rw [rgoneQ_hit ⟨k3',k4⟩] at H3;exact ⟨⟨p + 1,rfl,hp8,vq H3 s7⟩,by simp only [toNat_natCast]; omega⟩
   ·have k3':(m1.Q l[n].fBa.toNat p).fCa = 0:=by simpa using k3
    exact miss (fun hh=>hh.1 k3')
  ·have:p = 8:=by have:=of_decide_eq_false k2; omega
   subst this;refine ⟨⟨n + 1,rfl,hlt,?_⟩,by simp; omega⟩;rw [htk]; exact s5
 ·have:n = l.length:=by rw [hyl] at k; simp at k; omega
  subst this;rw [List.take_length] at s1;exact s1
end
section
open Go Mb
attribute [local irreducible] bM gR il Val Tx Tu Tn RV Res br nn ix gd ld st nw cl clv dL Lp ct
def qW (a0:Int) (K:kT ByteArray):hT:=hpv prog (Instr.buildSlice t_Sstring 11 #[(0,(.string (⟨#[]⟩:ByteArray))),(1,(.string (⟨#[115]⟩:ByteArray))),(2,(.string (⟨#[115,115,114]⟩:ByteArray))),(3,(.string (⟨#[115,101,115,114]⟩:ByteArray))),(4,(.string (⟨#[115]⟩:ByteArray))),(5,(.string (⟨#[115]⟩:ByteArray))),(6,(.string (⟨#[112,115,114]⟩:ByteArray))),(7,(.string (⟨#[112]⟩:ByteArray))),(8,(.string (⟨#[112,114]⟩:ByteArray))),(9,(.string (⟨#[115,119,111,46]⟩:ByteArray))),(10,(.string (⟨#[]⟩:ByteArray)))]) R_Sstring fun (v5:Sl)=>br ((decide (a0 >= 0)) && (decide (a0 < (v5.len:Int)))) ( ix v5 a0 fun q16=>ld (q16.1,q16.2 + Int.toNat a0 * 1) cT fun x17=>K x17) ( hpv prog (Instr.buildSlice t_Sstring 4 #[(0,(.string (⟨#[112,119]⟩:ByteArray))),(1,(.string (⟨#[112,119,46]⟩:ByteArray))),(2,(.string (⟨#[112,119,46,46]⟩:ByteArray))),(3,(.string (⟨#[112,119,46]⟩:ByteArray)))]) R_Sstring fun (v18:Sl)=>br ((decide (a0 >= 20)) && (decide (a0 <= 23))) ( ix v18 (i64.wrap (a0 - 20)) fun q28=>ld (q28.1,q28.2 + Int.toNat (i64.wrap (a0 - 20)) * 1) cT fun x29=>K x29) ( K (⟨#[]⟩:ByteArray)))
theorem sim_messuageref2_what (a0:Int) {K:kT ByteArray} {h:Hp} (H:qW a0 K h):cl prog mq [(.int .i64 a0)] cA K h:=J [] func115 H
def bH (K:kT Int) (Rec5:kT Int) (s4:Int) (s11:Bool):hT:=br s11 ( K 2) ( Rec5 (i64.wrap (s4 + 1)))
def pH (a0:aa) (a1:Int) (K:kT Int) (r19:ByteArray) (Rec5:kT Int) (s4:Int):hT:=br (decide (s4 < (r19.size:Int))) ( gd (0 <= (i64.wrap (s4 + 1))/\(i64.wrap (s4 + 1)) < 5)<|ct (bH K Rec5 s4)<|gd (0 <= s4/\s4 < (r19.size:Int))<|br ((sget r19 s4) == 115) ( bH K Rec5 s4 (decide ((aa.get a0 (i64.wrap (s4 + 1))) >= 8))) ( br ((sget r19 s4) == 112) ( bH K Rec5 s4 (decide ((aa.get a0 (i64.wrap (s4 + 1))) >= 8))) ( br ((sget r19 s4) == 119) ( bH K Rec5 s4 (decide ((aa.get a0 (i64.wrap (s4 + 1))) >= 16))) ( br ((sget r19 s4) == 101) ( bH K Rec5 s4 ((decide (a1 < 1)) || (decide ((aa.get a0 (i64.wrap (s4 + 1))) >= (u64.wrap a1))))) ( br ((sget r19 s4) == 114) ( bH K Rec5 s4 ((decide ((aa.get a0 (i64.wrap (s4 + 1))) < 1)) || (decide ((aa.get a0 (i64.wrap (s4 + 1))) > 3)))) ( br ((sget r19 s4) == 111) ( bH K Rec5 s4 ((decide ((aa.get a0 (i64.wrap (s4 + 1))) < 1)) || (decide ((aa.get a0 (i64.wrap (s4 + 1))) > 4)))) ( bH K Rec5 s4 false))))))) ( K 0)
def pq (a0:aa) (a1:Int) (K:kT Int):hT:=br (!(aB a0).2) ( K 1) ( cl prog mq [(.int .i64 ((aB a0).1))] cA fun r19=>Lp (pH a0 a1 K r19) 0)
theorem xu (a0:aa) (a1:Int) {K:kT Int} {h:Hp} (H:pq a0 a1 K h):cl prog la [(.agg (aa.C a0).toArray),(.int .i64 a1)] aC K h:=have z0:LH (σ:=Int) 6 1 (fun s4 r=>(8,(.int .i64 s4))::r) [8] [1,2,7] (fun _ l=>l):=⟨⟩; have z1:LH (σ:=Bool) 100023 1 (fun s11 r=>(10,(.bool s11))::r) [10] [1,2,7,8] (fun _ l=>l):=⟨⟩; J [23] func70 H
def fq (a0:Int) (K:kT Bool) (s7:Bool):hT:=br s7 ( K (a0 == 3)) ( K false)
def qY (a0:Int) (a1:Int) (K:kT Bool):hT:=br (!(cd a0)) ( K false) ( br (a1 == 20) ( K ((a0.tmod 2) == 1)) ( br (a1 == 21) ( K (decide (a0 >= 2))) ( ct (fq a0 K)<|br (a1 == 22) ( fq a0 K (a1 == 22)) ( fq a0 K (a1 == 23)))))
theorem sim_messuageref2_Lets (a0:Int) (a1:Int) {K:kT Bool} {h:Hp} (H:qY a0 a1 K h):cl prog mt [(.int .i64 a0),(.int .i64 a1)] ai K h:=have z0:LH (σ:=Bool) 102010 0 (fun s7 r=>(18,(.bool s7))::r) [18] [0] (fun _ l=>l):=⟨⟩; J [2010] func76 H
def dG (Rec2:kT (Sl × Int)) (s1:Sl × Int) (s12:Int):hT:=dL ( hpv prog (Instr.sliceAt aj (sv s1.1) none (some (.int .i64 s12)) none) av fun (v42:Sl)=>dL ( hpv prog (Builtin.append_ #[aj,aj] aj #[(sv (⟨none,0,0,none⟩:Sl)),(sv v42)]) av fun (v43:Sl)=>dL ( hpv prog (Instr.buildSlice aj 1 #[(0,(.int .i64 s1.2))]) av fun (v45:Sl)=>dL ( hpv prog (Builtin.append_ #[aj,aj] aj #[(sv v43),(sv v45)]) av fun (v46:Sl)=>hpv prog (Instr.sliceAt aj (sv s1.1) (some (.int .i64 s12)) none none) av fun (v49:Sl)=>hpv prog (Builtin.append_ #[aj,aj] aj #[(sv v46),(sv v49)]) av fun (v50:Sl)=>Rec2 (v50,(i64.wrap (s1.2 + 1)))) ( hpv prog (Instr.sliceAt aj (sv s1.1) (some (.int .i64 s12)) none none) av fun (v49:Sl)=>hpv prog (Builtin.append_ #[aj,aj] aj #[(sv v43),(sv v45)]) av fun (v46:Sl)=>hpv prog (Builtin.append_ #[aj,aj] aj #[(sv v46),(sv v49)]) av fun (v50:Sl)=>Rec2 (v50,(i64.wrap (s1.2 + 1))))) ( hpv prog (Instr.sliceAt aj (sv s1.1) (some (.int .i64 s12)) none none) av fun (v49:Sl)=>hpv prog (Instr.buildSlice aj 1 #[(0,(.int .i64 s1.2))]) av fun (v45:Sl)=>hpv prog (Builtin.append_ #[aj,aj] aj #[(sv v43),(sv v45)]) av fun (v46:Sl)=>hpv prog (Builtin.append_ #[aj,aj] aj #[(sv v46),(sv v49)]) av fun (v50:Sl)=>Rec2 (v50,(i64.wrap (s1.2 + 1))))) (dL ( hpv prog (Instr.buildSlice aj 1 #[(0,(.int .i64 s1.2))]) av fun (v45:Sl)=>dL ( hpv prog (Builtin.append_ #[aj,aj] aj #[(sv (⟨none,0,0,none⟩:Sl)),(sv v42)]) av fun (v43:Sl)=>dL ( hpv prog (Builtin.append_ #[aj,aj] aj #[(sv v43),(sv v45)]) av fun (v46:Sl)=>hpv prog (Instr.sliceAt aj (sv s1.1) (some (.int .i64 s12)) none none) av fun (v49:Sl)=>hpv prog (Builtin.append_ #[aj,aj] aj #[(sv v46),(sv v49)]) av fun (v50:Sl)=>Rec2 (v50,(i64.wrap (s1.2 + 1)))) ( hpv prog (Instr.sliceAt aj (sv s1.1) (some (.int .i64 s12)) none none) av fun (v49:Sl)=>hpv prog (Builtin.append_ #[aj,aj] aj #[(sv v43),(sv v45)]) av fun (v46:Sl)=>hpv prog (Builtin.append_ #[aj,aj] aj #[(sv v46),(sv v49)]) av fun (v50:Sl)=>Rec2 (v50,(i64.wrap (s1.2 + 1))))) ( hpv prog (Instr.sliceAt aj (sv s1.1) (some (.int .i64 s12)) none none) av fun (v49:Sl)=>hpv prog (Builtin.append_ #[aj,aj] aj #[(sv (⟨none,0,0,none⟩:Sl)),(sv v42)]) av fun (v43:Sl)=>hpv prog (Builtin.append_ #[aj,aj] aj #[(sv v43),(sv v45)]) av fun (v46:Sl)=>hpv prog (Builtin.append_ #[aj,aj] aj #[(sv v46),(sv v49)]) av fun (v50:Sl)=>Rec2 (v50,(i64.wrap (s1.2 + 1))))) ( hpv prog (Instr.sliceAt aj (sv s1.1) (some (.int .i64 s12)) none none) av fun (v49:Sl)=>dL ( hpv prog (Builtin.append_ #[aj,aj] aj #[(sv (⟨none,0,0,none⟩:Sl)),(sv v42)]) av fun (v43:Sl)=>hpv prog (Instr.buildSlice aj 1 #[(0,(.int .i64 s1.2))]) av fun (v45:Sl)=>hpv prog (Builtin.append_ #[aj,aj] aj #[(sv v43),(sv v45)]) av fun (v46:Sl)=>hpv prog (Builtin.append_ #[aj,aj] aj #[(sv v46),(sv v49)]) av fun (v50:Sl)=>Rec2 (v50,(i64.wrap (s1.2 + 1)))) ( hpv prog (Instr.buildSlice aj 1 #[(0,(.int .i64 s1.2))]) av fun (v45:Sl)=>hpv prog (Builtin.append_ #[aj,aj] aj #[(sv (⟨none,0,0,none⟩:Sl)),(sv v42)]) av fun (v43:Sl)=>hpv prog (Builtin.append_ #[aj,aj] aj #[(sv v43),(sv v45)]) av fun (v46:Sl)=>hpv prog (Builtin.append_ #[aj,aj] aj #[(sv v46),(sv v49)]) av fun (v50:Sl)=>Rec2 (v50,(i64.wrap (s1.2 + 1))))))) (dL ( hpv prog (Instr.buildSlice aj 1 #[(0,(.int .i64 s1.2))]) av fun (v45:Sl)=>dL ( hpv prog (Instr.sliceAt aj (sv s1.1) none (some (.int .i64 s12)) none) av fun (v42:Sl)=>dL ( hpv prog (Builtin.append_ #[aj,aj] aj #[(sv (⟨none,0,0,none⟩:Sl)),(sv v42)]) av fun (v43:Sl)=>dL ( hpv prog (Builtin.append_ #[aj,aj] aj #[(sv v43),(sv v45)]) av fun (v46:Sl)=>hpv prog (Instr.sliceAt aj (sv s1.1) (some (.int .i64 s12)) none none) av fun (v49:Sl)=>hpv prog (Builtin.append_ #[aj,aj] aj #[(sv v46),(sv v49)]) av fun (v50:Sl)=>Rec2 (v50,(i64.wrap (s1.2 + 1)))) ( hpv prog (Instr.sliceAt aj (sv s1.1) (some (.int .i64 s12)) none none) av fun (v49:Sl)=>hpv prog (Builtin.append_ #[aj,aj] aj #[(sv v43),(sv v45)]) av fun (v46:Sl)=>hpv prog (Builtin.append_ #[aj,aj] aj #[(sv v46),(sv v49)]) av fun (v50:Sl)=>Rec2 (v50,(i64.wrap (s1.2 + 1))))) ( hpv prog (Instr.sliceAt aj (sv s1.1) (some (.int .i64 s12)) none none) av fun (v49:Sl)=>hpv prog (Builtin.append_ #[aj,aj] aj #[(sv (⟨none,0,0,none⟩:Sl)),(sv v42)]) av fun (v43:Sl)=>hpv prog (Builtin.append_ #[aj,aj] aj #[(sv v43),(sv v45)]) av fun (v46:Sl)=>hpv prog (Builtin.append_ #[aj,aj] aj #[(sv v46),(sv v49)]) av fun (v50:Sl)=>Rec2 (v50,(i64.wrap (s1.2 + 1))))) ( hpv prog (Instr.sliceAt aj (sv s1.1) (some (.int .i64 s12)) none none) av fun (v49:Sl)=>hpv prog (Instr.sliceAt aj (sv s1.1) none (some (.int .i64 s12)) none) av fun (v42:Sl)=>hpv prog (Builtin.append_ #[aj,aj] aj #[(sv (⟨none,0,0,none⟩:Sl)),(sv v42)]) av fun (v43:Sl)=>hpv prog (Builtin.append_ #[aj,aj] aj #[(sv v43),(sv v45)]) av fun (v46:Sl)=>hpv prog (Builtin.append_ #[aj,aj] aj #[(sv v46),(sv v49)]) av fun (v50:Sl)=>Rec2 (v50,(i64.wrap (s1.2 + 1))))) ( hpv prog (Instr.sliceAt aj (sv s1.1) (some (.int .i64 s12)) none none) av fun (v49:Sl)=>dL ( hpv prog (Instr.sliceAt aj (sv s1.1) none (some (.int .i64 s12)) none) av fun (v42:Sl)=>dL ( hpv prog (Builtin.append_ #[aj,aj] aj #[(sv (⟨none,0,0,none⟩:Sl)),(sv v42)]) av fun (v43:Sl)=>hpv prog (Instr.buildSlice aj 1 #[(0,(.int .i64 s1.2))]) av fun (v45:Sl)=>hpv prog (Builtin.append_ #[aj,aj] aj #[(sv v43),(sv v45)]) av fun (v46:Sl)=>hpv prog (Builtin.append_ #[aj,aj] aj #[(sv v46),(sv v49)]) av fun (v50:Sl)=>Rec2 (v50,(i64.wrap (s1.2 + 1)))) ( hpv prog (Instr.buildSlice aj 1 #[(0,(.int .i64 s1.2))]) av fun (v45:Sl)=>hpv prog (Builtin.append_ #[aj,aj] aj #[(sv (⟨none,0,0,none⟩:Sl)),(sv v42)]) av fun (v43:Sl)=>hpv prog (Builtin.append_ #[aj,aj] aj #[(sv v43),(sv v45)]) av fun (v46:Sl)=>hpv prog (Builtin.append_ #[aj,aj] aj #[(sv v46),(sv v49)]) av fun (v50:Sl)=>Rec2 (v50,(i64.wrap (s1.2 + 1))))) ( hpv prog (Instr.buildSlice aj 1 #[(0,(.int .i64 s1.2))]) av fun (v45:Sl)=>hpv prog (Instr.sliceAt aj (sv s1.1) none (some (.int .i64 s12)) none) av fun (v42:Sl)=>hpv prog (Builtin.append_ #[aj,aj] aj #[(sv (⟨none,0,0,none⟩:Sl)),(sv v42)]) av fun (v43:Sl)=>hpv prog (Builtin.append_ #[aj,aj] aj #[(sv v43),(sv v45)]) av fun (v46:Sl)=>hpv prog (Builtin.append_ #[aj,aj] aj #[(sv v46),(sv v49)]) av fun (v50:Sl)=>Rec2 (v50,(i64.wrap (s1.2 + 1))))))
def pF (a0:Sl) (Rec2:kT (Sl × Int)) (s1:Sl × Int) (q14:Nat × Nat) (Rec25:kT Int) (s24:Int):hT:=br (decide (s24 < (s1.1.len:Int))) ( ix s1.1 s24 fun q26=>ld (q26.1,q26.2 + Int.toNat s24 * 1) (cI .i64) fun x27=>ix a0 x27 fun q28=>ld (q28.1,q28.2 + Int.toNat x27 * 16 + 8) (cI .i64) fun x30=>ld (q14.1,q14.2 + Int.toNat s1.2 * 16 + 8) (cI .i64) fun x35=>br (decide (x30 <= x35)) ( Rec25 (i64.wrap (s24 + 1))) ( dG Rec2 s1 s24)) ( dG Rec2 s1 s24)
def pG (a0:Sl) (K:kT Sl) (Rec2:kT (Sl × Int)) (s1:Sl × Int):hT:=br (decide (s1.2 < (a0.len:Int))) ( ix a0 s1.2 fun q14=>ld (q14.1,q14.2 + Int.toNat s1.2 * 16 + 8) (cI .i64) fun x16=>br (decide (x16 <= 0)) ( Rec2 (s1.1,(i64.wrap (s1.2 + 1)))) ( ct (dG Rec2 s1)<|Lp (pF a0 Rec2 s1 q14) 0)) ( K s1.1)
def pj (a0:Sl) (K:kT Sl):hT:=Lp (pG a0 K) ((⟨none,0,0,none⟩:Sl),0)
theorem xr (a0:Sl) {K:kT Sl} {h:Hp} (H:pj a0 K h):cl prog kY [(sv a0)] av K h:=have z0:LH (σ:=Sl × Int) 3 0 (fun s1 r=>(3,(sv s1.1))::(4,(.int .i64 s1.2))::r) [3,4] [0] (fun _ l=>l):=⟨⟩; have z1:LH (σ:=Int) 100009 0 (fun s12 r=>(5,(.int .i64 s12))::r) [5] [0,3,4] (fun _ l=>l):=⟨⟩; have z2:OH 9 [0,4,16,28,32] (.t 2 5 9 [] (.t 3 5 9 [] (.b 5 9 [] (.b 6 9 [38,42,44] .e [26,42,44] .e) [22,26,42,44] .e) [] (.b 3 9 [] (.b 6 9 [38,42,44] .e [26,42,44] .e) [14,26,42,44] .e) [] (.b 3 5 [22,26,42,44] .e [14,26,42,44] .e)) [] (.b 2 9 [] (.b 3 9 [] (.b 6 9 [38,42,44] .e [26,42,44] .e) [14,26,42,44] .e) [10,14,26,42,44] .e) [] (.b 2 5 [] (.b 3 5 [22,26,42,44] .e [14,26,42,44] .e) [10,14,26,42,44] .e)) []:=⟨⟩; have z3:LH (σ:=Int) 7 0 (fun s24 r=>(5,(.int .i64 s24))::r) [5] [0,3,4] (fun _ l=>l):=⟨⟩; have z4:OH 7 [0,4,8,12,16,20,24,28,52,56,60,64,32,37,40,44,49,69,72,76] .e []:=⟨⟩; J [9] func56 H
end
section
open Go Mb
theorem ref_kind (c:bv):aB c = am c:=rfl
theorem ref_user (k:Int):dQ k = aQ k:=rfl
theorem ref_holds (a b c:Int):eM a b c = eo a b c:=rfl
theorem tB (a b:Int):bp a b = ap a b:=by
 unfold bp ap;show ((((aS a && aS b) && _) && _):Bool) = _;by_cases h:1 <= a/\a <= 3/\1 <= b/\b <= 3
 ·have ha:a = 1\/a = 2\/a = 3:=by omega
  have hb:b = 1\/b = 2\/b = 3:=by omega
  rcases ha with rfl | rfl | rfl <;> rcases hb with rfl | rfl | rfl <;> decide
 ·have h2:(aS a && aS b) = false:=by
   unfold aS;simp; omega
  rw [h2]; rfl
def letter (k:Int):Int:=if k = 0 then 115 else if k = 1 then 112 else if k = 2 then 119 else if k = 3 then 101 else if k = 4 then 114 else if k = 5 then 111 else 46
def whl:List ByteArray:=[⟨#[]⟩,⟨#[115]⟩,⟨#[115,115,114]⟩,⟨#[115,101,115,114]⟩,⟨#[115]⟩,⟨#[115]⟩,⟨#[112,115,114]⟩,⟨#[112]⟩,⟨#[112,114]⟩,⟨#[115,119,111,46]⟩,⟨#[]⟩]
def whu:List ByteArray:=[⟨#[112,119]⟩,⟨#[112,119,46]⟩,⟨#[112,119,46,46]⟩,⟨#[112,119,46]⟩]
def wh (k:Int):ByteArray:=if k < 11 then whl.getD k.toNat ⟨#[]⟩ else whu.getD (k.toNat - 20) ⟨#[]⟩
def okW (k:Int):Bool:=(wh k).size == (Word.kinds k).length && (range (Word.kinds k).length).all fun n=>sget (wh k) n == letter ((Word.kinds k).getD n 9) && decide (0 <= (Word.kinds k).getD n 9) && decide ((Word.kinds k).getD n 9 <= 6)
theorem okWs:([1,2,3,4,5,6,7,8,9,10,20,21,22,23].all okW) = true:=by kernel_rfl
theorem okW_all {k:Int} (h:1 <= k/\k <= 10\/20 <= k/\k <= 23):okW k = true:=by
 refine List.all_eq_true.1 okWs k ?_;simp only [List.mem_cons,List.not_mem_nil,or_false];omega
theorem cl_p {P:Program} {τ:Type} {f:FuncId} {args:List Value} {enc:τ->Value} {φ:τ->Prop} {l:List As} {K:τ->Hp->Prop} {h:Hp} (c:Sp P f args enc [] (fun r=>pa_ (φ r) [])) (s:ah l h) (k:∀ r h',φ r->ah l h'->K r h'):cl P f args enc K h :=
 bG [] c s rfl fun r h' ⟨_,_,dj,e,⟨hr,sm⟩,sr⟩=>k r h' hr (bT ⟨_,_,dj,e,sm,sr⟩)
theorem wh_at {k:Int} (h:1 <= k/\k <= 10\/20 <= k/\k <= 23):(wh k).size = (Word.kinds k).length/\∀ (n:Nat) x,(Word.kinds k)[n]? = some x->sget (wh k) n = letter x/\0 <= x/\x <= 6:=by
 have h:=okW_all h;unfold okW at h;simp only [Bool.and_eq_true,beq_iff_eq,List.all_eq_true,mem_range,decide_eq_true_eq] at h;refine ⟨h.1,fun n x hx=>?_⟩;have hn:=(List.getElem?_eq_some_iff.1 hx).1;have:=h.2 n hn;have e:(Word.kinds k).getD n 9 = x:=by rw [List.getD_eq_getElem?_getD,hx]; rfl
 rw [e] at this;exact ⟨this.1.1,this.1.2,this.2⟩
theorem str_len (x:ByteArray):(cT x).length = 1:=rfl
theorem sp_ref_what {k:Int} (hk:1 <= k/\k <= 10\/20 <= k/\k <= 23):Sp prog mq [.int .i64 k] cA [] (fun r=>pa_ (r = wh k) []):=by
 intro h st;refine sim_messuageref2_what _ ?_;unfold qW;refine db (τ:=ByteArray) whl (val:=fun x=>.string x) (enc:=cT) el_Sstring str_len (fun _=>rfl) st rfl rfl (by decide) fun v h1 s1=>?_;have hl:=(aX (j:=0) s1 rfl).1;have hl:v.len = 11:=hl;obtain ⟨n,rfl⟩:=eq_ofNat_of_zero_le (show 0 <= k by omega);refine ar (fun c=>?_) (fun c=>?_)
 ·have c':n < 11:=by rw [hl] at c; simp at c; omega
  refine bE s1 (j:=0) rfl (by omega) (by simp [whl]; omega) fun q hq=>?_;refine bK (j:=0) (i:=n) (k:=0) (whl.getD n ⟨#[]⟩) str_len s1 rfl hq rfl ?_ (c1 rfl rfl) ?_
  ·rw [List.getD_eq_getElem?_getD];rw [List.getElem?_eq_getElem (show n < whl.length from c')]; rfl
  ·refine aw ?_ (aT (l:=[_]) s1);unfold wh;rw [if_pos (by omega),toNat_natCast]
 ·have c':11 <= n:=by rw [hl] at c; simp at c; omega
  refine db (τ:=ByteArray) whu (val:=fun x=>.string x) (enc:=cT) el_Sstring str_len (fun _=>rfl) (aT (l:=[_]) s1:ah [] h1) rfl rfl (by decide) fun v2 h2 s2=>?_;refine cg (by simp; omega) ?_;have hw:i64.wrap ((n:Int) - 20) = ((n - 20:Nat):Int):=by rw [aE (by omega) (by omega)]; omega
  rw [hw];refine bE s2 (j:=0) rfl (by omega) (by simp [whu]; omega) fun q hq=>?_;refine bK (j:=0) (i:=n - 20) (k:=0) (whu.getD (n - 20) ⟨#[]⟩) str_len s2 rfl hq rfl ?_ (c1 rfl rfl) ?_
  ·rw [List.getD_eq_getElem?_getD];rw [List.getElem?_eq_getElem (show n - 20 < whu.length by show n - 20 < 4; omega)]; rfl
  ·refine aw ?_ (aT (l:=[_]) s2);unfold wh;rw [if_neg (by omega),toNat_natCast]
theorem sp_ref_Check (c:bv) (n:Int) (hn:0 < n) (hn2:n < 2 ^ 60):Sp prog la [.agg (aa.C c).toArray,.int .i64 n] aC [] (fun r=>pa_ (r = Word.check c n) []):=by
 intro h st;refine xu _ _ ?_;unfold pq;rw [ref_kind];have hun:u64.wrap n = n:=by
  unfold IntKind.wrap;show (if (IntKind.signed .u64 && _) = true then _ else n % 2 ^ (IntKind.bits .u64)) = n;rw [if_neg (by simp [IntKind.signed])];exact Int.emod_eq_of_lt (by omega) (by show n < 2 ^ 64; omega)
 by_cases hk:1 <= c.e0/\c.e0 <= 10\/20 <= c.e0/\c.e0 <= 23
 ·have ek:=oN hk;have hck:Word.check c n = Word.checks c n (Word.kinds c.e0) 1:=by unfold Word.check; rw [ek]; rfl
  rw [ek,hck];refine bB rfl ?_;refine cl_p (sp_ref_what hk) st fun r h1 hr s1=>?_;subst hr;obtain ⟨w1,w2⟩:=wh_at hk;have hkl:=Word.kinds_len c.e0;generalize wh c.e0 = y at w1 w2;generalize Word.kinds c.e0 = ks at w1 w2 hkl;refine Lp.intro (fun (i:Int) h=>∃ m:Nat,i = m/\m <= ks.length/\Word.checks c n (ks.drop m) (m + 1) = Word.checks c n ks 1/\ah [] h) (fun (i:Int) _=>ks.length - i.toNat) ⟨0,rfl,zero_le _,rfl,s1⟩ ?_;rintro i h2 ⟨m,rfl,hm,he,s2⟩;unfold pH;refine ar (fun d=>?_) (fun d=>?_)
  ·have hlt:m < ks.length:=by rw [w1] at d; simpa using d
   have hw:i64.wrap ((m:Int) + 1) = ((m + 1:Nat):Int):=by rw [aE (by omega) (by omega)]; rfl
   obtain ⟨g1,g2,g3⟩:=w2 m ks[m] (al hlt);rw [hw,g1];refine ⟨⟨by omega,by omega⟩,⟨by omega,by rw [w1]; omega⟩,?_⟩;rw [List.drop_eq_getElem_cons hlt,Word.checks] at he;generalize ks[m] = x at g2 g3 he;have go:∀ b:Bool,b = !(Word.fits c ((m:Int) + 1) x n)->bH (fun r=>pa_ (r = Word.checks c n ks 1) []) (fun (i:Int) h=>(∃ m:Nat,i = m/\m <= ks.length/\Word.checks c n (ks.drop m) (m + 1) = Word.checks c n ks 1/\ah [] h)/\ks.length - i.toNat < ks.length - (m:Int).toNat) (m:Int) b h2:=by
    intro b hb;unfold bH;rw [hw];cases hf:Word.fits c ((m:Int) + 1) x n with
    | true =>
     rw [hf] at hb he;rw [if_pos rfl] at he;subst hb;refine bB rfl ⟨⟨m + 1,rfl,hlt,?_,s2⟩,by simp only [toNat_natCast]; omega⟩;rw [← he]; rfl
    | false =>
     rw [hf] at hb he;rw [if_neg (by simp)] at he;subst hb;exact cg rfl (aw he s2)
   have i1:1 <= (m:Int) + 1:=by omega
   have i2:(m:Int) + 1 < 5:=by omega
   have hmm:((m + 1:Nat):Int) = (m:Int) + 1:=rfl;rw [hmm];have hx:x = 0\/x = 1\/x = 2\/x = 3\/x = 4\/x = 5\/x = 6:=by omega
   have bo:∀ {p:Prop} {b f:Bool} [Decidable p],(f = true↔¬ p)->b = decide p->b = !f:=by
    intro p b f _ h1 h2;subst h2;cases f with
    | true=>exact decide_eq_false (h1.1 rfl)
    | false=>exact decide_eq_true (by
      by_cases hp:p
      ·exact hp
      ·exact absurd (h1.2 hp) (by simp))
   rcases hx with rfl | rfl | rfl | rfl | rfl | rfl | rfl
   ·refine cg rfl (go _ (bo (p:=aa.get c ((m:Int) + 1) >= 8) ((ja i1 i2).trans ⟨by omega,by omega⟩) rfl))
   ·refine bB rfl (cg rfl (go _ (bo (p:=aa.get c ((m:Int) + 1) >= 8) ((fit1 i1 i2).trans ⟨by omega,by omega⟩) rfl)))
   ·refine bB rfl (bB rfl (cg rfl (go _ (bo (p:=aa.get c ((m:Int) + 1) >= 16) ((fit2 i1 i2).trans ⟨by omega,by omega⟩) rfl))))
   ·refine bB rfl (bB rfl (bB rfl (cg rfl (go _ (bo (p:=aa.get c ((m:Int) + 1) >= n) ((fit3 i1 i2 hn hn2).trans ⟨by omega,by omega⟩) ?_)))));rw [hun,decide_eq_false (show ¬ n < 1 by omega)]; rfl
   ·refine bB rfl (bB rfl (bB rfl (bB rfl (cg rfl (go _ (bo (p:=aa.get c ((m:Int) + 1) < 1\/aa.get c ((m:Int) + 1) > 3) (fit4.trans ⟨by omega,by omega⟩) ?_))))));simp
   ·refine bB rfl (bB rfl (bB rfl (bB rfl (bB rfl (cg rfl (go _ (bo (p:=aa.get c ((m:Int) + 1) < 1\/aa.get c ((m:Int) + 1) > 4) (fit5.trans ⟨by omega,by omega⟩) ?_)))))));simp
   ·refine bB rfl (bB rfl (bB rfl (bB rfl (bB rfl (bB rfl (go _ ?_))))));rw [fit6]; rfl
  ·have:m = ks.length:=by rw [w1] at d; simp at d; omega
   subst this;rw [List.drop_length] at he;exact aw he s2
 ·have ek:=kind_no hk;rw [ek];refine cg rfl (aw ?_ st);unfold Word.check;rw [ek]; rfl
theorem sp_ref_Lets (r k:Int) (hk:20 <= k/\k <= 23):Sp prog mt [.int .i64 r,.int .i64 k] ai [] (fun v=>pa_ (v = bk r k) []):=by
 intro h st;refine sim_messuageref2_Lets _ _ ?_;unfold qY;have hk4:k = 20\/k = 21\/k = 22\/k = 23:=by omega
 refine ar (fun c=>?_) (fun c=>?_)
 ·have hm:¬ (1 <= r/\r <= 3):=by unfold cd at c; simp at c; omega
  have hz:∀ a,ap a r = false:=fun a=>by
   unfold ap;have:aS r = false:=by unfold aS; simp; omega
   rw [this]; simp
  refine aw ?_ st;unfold bk;rw [hz,hz,hz,hz]; simp
 ·have hm:1 <= r/\r <= 3:=by unfold cd at c; simp at c; omega
  have hr:r = 1\/r = 2\/r = 3:=by omega
  rcases hk4 with rfl | rfl | rfl | rfl
  ·refine cg rfl (aw ?_ st); rcases hr with rfl | rfl | rfl <;> decide
  ·refine bB rfl (cg rfl (aw ?_ st)); rcases hr with rfl | rfl | rfl <;> decide
  ·refine bB rfl (bB rfl (cg rfl ?_));unfold fq;refine cg rfl (aw ?_ st); rcases hr with rfl | rfl | rfl <;> decide
  ·refine bB rfl (bB rfl (bB rfl ?_));unfold fq;refine cg rfl (aw ?_ st); rcases hr with rfl | rfl | rfl <;> decide
end
section
open Go Mb
theorem RF.setR {m:RM} {c:List Value} (H:RF m c) {e p:Nat} (he:e < 4) (hp:p < 8) (x:Int):RF (m.setQ e p { m.Q e p with fCa:=x }) (wr c (163 + e * 24 + p * 3 + 2) [.int .i64 x]):=by
 have h1:=H.setQ he hp { m.Q e p with fCa:=x };have e1:wr c (163 + e * 24 + p * 3) (ak.C { m.Q e p with fCa:=x }) = wr c (163 + e * 24 + p * 3 + 2) [.int .i64 x]:=by
  have hl:=H.len;have b1:163 + e * 24 + p * 3 + (ak.C { m.Q e p with fCa:=x }).length <= c.length:=by rw [fK]; omega
  have b2:163 + e * 24 + p * 3 + 2 + [Value.int .i64 x].length <= c.length:=by simp; omega
  apply List.ext_getElem?;intro n;rw [wr_get _ _ _ _ b1,wr_get _ _ _ _ b2,fK];have l1:[Value.int .i64 x].length = 1:=rfl;rw [l1];by_cases g2:n = 163 + e * 24 + p * 3 + 2
  ·subst g2;rw [if_pos (by omega),if_pos (by omega),show 163 + e * 24 + p * 3 + 2 - (163 + e * 24 + p * 3) = 2 by omega,Nat.sub_self]; rfl
  ·by_cases g:163 + e * 24 + p * 3 <= n/\n < 163 + e * 24 + p * 3 + 3
   ·rw [if_pos g,if_neg (by omega)];have hj:n = 163 + e * 24 + p * 3 + 0\/n = 163 + e * 24 + p * 3 + 1:=by omega
    rcases hj with rfl | rfl
    ·rw [show 163 + e * 24 + p * 3 + 0 - (163 + e * 24 + p * 3) = 0 by omega];exact (H.pt e p he hp 0 _ rfl).symm
    ·rw [show 163 + e * 24 + p * 3 + 1 - (163 + e * 24 + p * 3) = 1 by omega];exact (H.pt e p he hp 1 _ rfl).symm
   ·rw [if_neg g,if_neg (by omega)]
 rw [e1] at h1;exact h1
def kg (m:RM) (e:Nat) (kind:Int) (c:bv):Int × RM :=
 if kind = 6 then
  if (m.S e c.e2.toNat).fIs = false then (3,m) else if (m.Q e c.e1.toNat).fCa ≠ 0 then (4,m) else if ap (i64.wrap c.e3) (m.S e c.e2.toNat).fCa = false then (5,m)
  else (0,m.setQ e c.e1.toNat ⟨(m.S e c.e2.toNat).fEa,i64.wrap c.e2,i64.wrap c.e3⟩)
 else if (m.Q e c.e1.toNat).fCa = 0 then (3,m)
 else if kind = 7 then (0,m.setQ e c.e1.toNat ⟨0,0,0⟩)
 else if ap (i64.wrap c.e2) (m.S e (m.Q e c.e1.toNat).fDa.toNat).fCa = false then (5,m)
 else (0,m.setQ e c.e1.toNat { m.Q e c.e1.toNat with fCa:=i64.wrap c.e2 })
theorem sp_ref_remap (x:Ptr) (m:RM) (W:RW m) (e:Nat) (kind:Int) (c:bv) (he:e < 4) (h1:0 <= c.e1/\c.e1 < 8) (h2:kind = 6->0 <= c.e2/\c.e2 < 8):Sp prog fC [pv x,.int .i64 e,.int .i64 kind,.agg (aa.C c).toArray] aC [cj x m] (fun v=>pa_ (v = (kg m e kind c).1) [cj x (kg m e kind c).2]):=by
 intro h s0;refine pW _ _ _ _ ?_;unfold jh;obtain ⟨b,cs,rfl,H,s1⟩:=ow s0;obtain ⟨p,hp⟩:=eq_ofNat_of_zero_le h1.1;have hp8:p < 8:=by omega
 have ep:c.e1.toNat = p:=by omega
 refine bn ⟨⟨by omega,by omega⟩,h1,?_⟩;have fin:∀ {r:Int × RM},kg m e kind c = r->∀ {h':Hp},ah [cj (some (b,0)) r.2] h'->pa_ (r.1 = (kg m e kind c).1) [cj (some (b,0)) (kg m e kind c).2] h':=by
  intro r hr h' s';rw [hr]; exact aw rfl s'
 refine ar (fun k=>?_) (fun k=>?_)
 ·have k6:kind = 6:=by simpa using k
  have h2:=h2 k6;obtain ⟨s,hs⟩:=eq_ofNat_of_zero_le h2.1;have es:c.e2.toNat = s:=by omega
  refine ⟨h2,?_⟩;refine rd_slot (j:=0) (e:=e) (s:=s) H s1 rfl he (by omega) (by simp [es]) ?_;refine ar (fun k1=>?_) (fun k1=>?_)
  ·have k1':(m.S e s).fIs = false:=by simpa using k1
   exact fin (r:=(3,m)) (by unfold kg; rw [if_pos k6,es,if_pos k1']) s0
  have k1':¬ (m.S e s).fIs = false:=by simpa using k1
  refine rd_prt (j:=0) (e:=e) (p:=p) H s1 rfl he hp8 (by simp [ep]) ?_;refine ar (fun k2=>?_) (fun k2=>?_)
  ·have k2':(m.Q e p).fCa ≠ 0:=by simpa using k2
   exact fin (r:=(4,m)) (by unfold kg; rw [if_pos k6,es,if_neg k1',ep,if_pos k2']) s0
  have k2':¬ (m.Q e p).fCa ≠ 0:=by simpa using k2
  rw [tB];refine ar (fun k3=>?_) (fun k3=>?_)
  ·have k3':ap (i64.wrap c.e3) (m.S e s).fCa = false:=by simpa using k3
   exact fin (r:=(5,m)) (by unfold kg; rw [if_pos k6,es,if_neg k1',ep,if_neg k2',if_pos k3']) s0
  have k3':¬ ap (i64.wrap c.e3) (m.S e s).fCa = false:=by simpa using k3
  refine mX (i:=0) s1 rfl (by rw [fK,H.len]; simp [ep]; omega) fun h7 s7=>?_;have e1:0 + 163 + Int.toNat (e:Int) * 24 + Int.toNat c.e1 * 3 = 163 + e * 24 + p * 3:=by simp [ep]
  have s7:ah [blk b ay (wr cs (0 + 163 + Int.toNat (e:Int) * 24 + Int.toNat c.e1 * 3) (ak.C ⟨(m.S e s).fEa,i64.wrap c.e2,i64.wrap c.e3⟩))] h7:=s7;rw [e1] at s7;exact fin (r:=(0,m.setQ e p ⟨(m.S e s).fEa,i64.wrap c.e2,i64.wrap c.e3⟩)) (by unfold kg; rw [if_pos k6,es,if_neg k1',ep,if_neg k2',if_neg k3']) (vq (H.setQ he hp8 _) s7)
 have k6:¬ kind = 6:=by simpa using k
 refine ar (fun k7=>?_) (fun k7=>?_)
 ·have k7:kind = 7:=by simpa using k7
  refine rd_prt (j:=0) (e:=e) (p:=p) H s1 rfl he hp8 (by simp [ep]) ?_;refine ar (fun k2=>?_) (fun k2=>?_)
  ·have k2':(m.Q e p).fCa = 0:=by simpa using k2
   exact fin (r:=(3,m)) (by unfold kg; rw [if_neg k6,ep,if_pos k2']) s0
  have k2':¬ (m.Q e p).fCa = 0:=by simpa using k2
  refine mX (i:=0) s1 rfl (by rw [fK,H.len]; simp [ep]; omega) fun h7 s7=>?_;have e1:0 + 163 + Int.toNat (e:Int) * 24 + Int.toNat c.e1 * 3 = 163 + e * 24 + p * 3:=by simp [ep]
  have s7:ah [blk b ay (wr cs (0 + 163 + Int.toNat (e:Int) * 24 + Int.toNat c.e1 * 3) (ak.C ⟨0,0,0⟩))] h7:=s7;rw [e1] at s7;exact fin (r:=(0,m.setQ e p ⟨0,0,0⟩)) (by unfold kg; rw [if_neg k6,ep,if_neg k2',if_pos k7]) (vq (H.setQ he hp8 _) s7)
 have k7:¬ kind = 7:=by simpa using k7
 refine rd_prt (j:=0) (e:=e) (p:=p) H s1 rfl he hp8 (by simp [ep]) ?_;refine ar (fun k2=>?_) (fun k2=>?_)
 ·have k2':(m.Q e p).fCa = 0:=by simpa using k2
  exact fin (r:=(3,m)) (by unfold kg; rw [if_neg k6,ep,if_pos k2']) s0
 have k2':¬ (m.Q e p).fCa = 0:=by simpa using k2
 have hq:=W.qs e p he hp8 k2';refine rd_psl (j:=0) (e:=e) (p:=p) H s1 rfl he hp8 (by simp [ep]) ⟨hq,?_⟩;refine rd_rt (j:=0) (e:=e) (s:=(m.Q e p).fDa.toNat) H s1 rfl he (by omega) (by simp) ?_;rw [tB];refine ar (fun k3=>?_) (fun k3=>?_)
 ·have k3':ap (i64.wrap c.e2) (m.S e (m.Q e p).fDa.toNat).fCa = false:=by simpa using k3
  exact fin (r:=(5,m)) (by unfold kg; rw [if_neg k6,ep,if_neg k2',if_neg k7,if_pos k3']) s0
 have k3':¬ ap (i64.wrap c.e2) (m.S e (m.Q e p).fDa.toNat).fCa = false:=by simpa using k3
 refine mX (i:=0) s1 rfl (by rw [H.len]; simp [ep]; omega) fun h7 s7=>?_;have e1:0 + 163 + Int.toNat (e:Int) * 24 + Int.toNat c.e1 * 3 + 2 = 163 + e * 24 + p * 3 + 2:=by simp [ep]
 have s7:ah [blk b ay (wr cs (0 + 163 + Int.toNat (e:Int) * 24 + Int.toNat c.e1 * 3 + 2) [.int .i64 (i64.wrap c.e2)])] h7:=s7;rw [e1] at s7;exact fin (r:=(0,m.setQ e p { m.Q e p with fCa:=i64.wrap c.e2 })) (by unfold kg; rw [if_neg k6,ep,if_neg k2',if_neg k7,if_neg k3']) (vq (H.setR he hp8 _) s7)
def si (m:RM) (f:Nat) (kind:Int) (c:bv):Int × RM :=
 if kind = 21 then (0,m.setM f c.e2.toNat c.e3)
 else if kind = 22 then (m.M f c.e2.toNat,if m.M f c.e2.toNat = c.e3 then m.setM f c.e2.toNat c.e4 else m)
 else if kind = 23 then (m.M f c.e2.toNat,m.setM f c.e2.toNat (u64.wrap (m.M f c.e2.toNat + c.e3)))
 else (m.M f c.e2.toNat,m)
theorem sp_ref_Word (x:Ptr) (m:RM) (f:Nat) (kind:Int) (c:bv) (hf:f < 16) (h2:0 <= c.e2/\c.e2 < 16):Sp prog fV [pv x,.int .i64 f,.int .i64 kind,.agg (aa.C c).toArray] eE [cj x m] (fun v=>pa_ (v = (si m f kind c).1) [cj x (si m f kind c).2]):=by
 intro h s0;refine qM _ _ _ _ ?_;unfold jI;obtain ⟨b,cs,rfl,H,s1⟩:=ow s0;obtain ⟨a,ha⟩:=eq_ofNat_of_zero_le h2.1;have ha16:a < 16:=by omega
 have ea:c.e2.toNat = a:=by omega
 have fin:∀ {r:Int × RM},si m f kind c = r->∀ {h':Hp},ah [cj (some (b,0)) r.2] h'->pa_ (r.1 = (si m f kind c).1) [cj (some (b,0)) (si m f kind c).2] h':=by
  intro r hr h' s';rw [hr]; exact aw rfl s'
 refine bn ⟨⟨by omega,by omega⟩,h2,?_⟩;refine rd_mem (j:=0) (f:=f) (a:=a) H s1 rfl hf ha16 (by simp [ea]) ?_;have stm:∀ (y:Int) (K:Hp->Prop),(∀ h',ah [cj (some (b,0)) (m.setM f a y)] h'->K h')->st (b,0 + 259 + Int.toNat (f:Int) * 16 + Int.toNat c.e2 * 1) [.int .u64 y] K h:=by
  intro y K hK;refine mX (i:=0) s1 rfl (by rw [H.len]; simp [ea]; omega) fun h7 s7=>?_;have e1:0 + 259 + Int.toNat (f:Int) * 16 + Int.toNat c.e2 * 1 = 259 + f * 16 + a:=by simp [ea]
  have s7:ah [blk b ay (wr cs (0 + 259 + Int.toNat (f:Int) * 16 + Int.toNat c.e2 * 1) [.int .u64 y])] h7:=s7;rw [e1] at s7;exact hK h7 (vq (H.setM hf ha16 y) s7)
 refine ar (fun k=>?_) (fun k=>?_)
 ·have k1:kind = 21:=by simpa using k
  exact stm _ _ fun h' s'=>fin (r:=(0,m.setM f a c.e3)) (by unfold si; rw [if_pos k1,ea]) s'
 have k1:¬ kind = 21:=by simpa using k
 refine ar (fun k=>?_) (fun k=>?_)
 ·have k2:kind = 22:=by simpa using k
  refine ar (fun k=>?_) (fun k=>?_)
  ·have k3:m.M f a = c.e3:=by simpa using k
   exact stm _ _ fun h' s'=>fin (r:=(m.M f a,m.setM f a c.e4)) (by unfold si; rw [if_neg k1,if_pos k2,ea,if_pos k3]) s'
  ·have k3:¬ m.M f a = c.e3:=by simpa using k
   exact fin (r:=(m.M f a,m)) (by unfold si; rw [if_neg k1,if_pos k2,ea,if_neg k3]) s0
 have k2:¬ kind = 22:=by simpa using k
 refine ar (fun k=>?_) (fun k=>?_)
 ·have k3:kind = 23:=by simpa using k
  exact stm _ _ fun h' s'=>fin (r:=(m.M f a,m.setM f a (u64.wrap (m.M f a + c.e3)))) (by unfold si; rw [if_neg k1,if_neg k2,if_pos k3,ea]) s'
 ·have k3:¬ kind = 23:=by simpa using k
  exact fin (r:=(m.M f a,m)) (by unfold si; rw [if_neg k1,if_neg k2,if_neg k3,ea]) s0
end
section
open Go Mb
def rcells (z:dc):List Value:=[.int .i64 z.fRa,.int .i64 z.fHa,.int .i64 z.fUa]++((replicate 32 jp).flatMap aq.C++((replicate 32 (⟨0,0,0⟩:Pte)).flatMap ak.C++(replicate 256 (0:Int)).flatMap (cI .u64)))
def RM.new (z:dc):RM:=⟨z,fun _ _=>jp,fun _ _=>⟨0,0,0⟩,fun _ _=>0⟩
set_option maxRecDepth 20000 in
theorem bld_ref (z:dc) (K:Value->Hp->Prop) (h:Hp):hp prog (Instr.build ay #[(0,.agg (ao.C z).toArray)]) K h = K (encL (rcells z)) h:=by kernel_rfl
theorem bld_16 (K:Value->Hp->Prop) (h:Hp):hp prog (Instr.build fe #[]) K h = K (encL (replicate 16 (.int .u64 0))) h:=by kernel_rfl
theorem new_rf (z:dc):RF (RM.new z) (rcells z):=by
 have l1:((replicate 32 jp).flatMap aq.C).length = 160:=by rw [bR gZ,length_replicate]
 have l2:((replicate 32 (⟨0,0,0⟩:Pte)).flatMap ak.C).length = 96:=by rw [bR fK,length_replicate]
 have l3:((replicate 256 (0:Int)).flatMap (cI .u64)).length = 256:=by rw [bR (fun _=>rfl) (m:=1),length_replicate]
 have l0:([.int .i64 z.fRa,.int .i64 z.fHa,.int .i64 z.fUa]:List Value).length = 3:=rfl;refine ⟨?_,rfl,rfl,rfl,fun e s he hs j v hv=>?_,fun e p he hp j v hv=>?_,fun f a hf ha=>?_⟩
 ·unfold rcells;rw [List.length_append,List.length_append,List.length_append,l0,l1,l2,l3]
 ·have hv:(aq.C jp)[j]? = some v:=hv;have hj:j < 5:=by have:=(List.getElem?_eq_some_iff.1 hv).1; rw [gZ] at this; exact this
  have g:=mK gZ (replicate 32 jp) (e * 8 + s) j jp v (by rw [List.getElem?_replicate,if_pos (by omega)]) hv;unfold rcells;rw [getElem?_append_right (by rw [l0]; omega),l0,List.getElem?_append_left (by rw [l1]; omega),show 3 + e * 40 + s * 5 + j - 3 = (e * 8 + s) * 5 + j by omega];exact g
 ·have hv:(ak.C (⟨0,0,0⟩:Pte))[j]? = some v:=hv;have hj:j < 3:=by have:=(List.getElem?_eq_some_iff.1 hv).1; rw [fK] at this; exact this
  have g:=mK fK (replicate 32 (⟨0,0,0⟩:Pte)) (e * 8 + p) j ⟨0,0,0⟩ v (by rw [List.getElem?_replicate,if_pos (by omega)]) hv;unfold rcells;rw [getElem?_append_right (by rw [l0]; omega),l0,getElem?_append_right (by rw [l1]; omega),l1,List.getElem?_append_left (by rw [l2]; omega),show 163 + e * 24 + p * 3 + j - 3 - 160 = (e * 8 + p) * 3 + j by omega];exact g
 ·have g:=mK (enc:=cI .u64) (m:=1) (fun _=>rfl) (replicate 256 (0:Int)) (f * 16 + a) 0 0 (.int .u64 0) (by rw [List.getElem?_replicate,if_pos (by omega)]) rfl;unfold rcells;rw [getElem?_append_right (by rw [l0]; omega),l0,getElem?_append_right (by rw [l1]; omega),l1,getElem?_append_right (by rw [l2]; omega),l2,show 259 + f * 16 + a - 3 - 160 - 96 = (f * 16 + a) * 1 + 0 by omega];exact g
theorem sp_ref_New (z:dc):Sp prog mw [.agg (ao.C z).toArray] df [] (fun r=>ah [cj r (RM.new z)]):=by
 intro h st;refine sim_messuageref13_New _ ?_;unfold rb;refine ⟨?_⟩;rw [bld_ref];refine ⟨_,rfl,?_⟩;exact nP st fun b h1 s1=>vq (new_rf z) s1
theorem hpu_store {P:Program} {T b off n:Nat} {vs:List Value} {v:Value} {K:Hp->Prop} {h:Hp} (hT:∃ i,P.info? T = some i/\i.size = n) (hvs:v.cells.toList = vs) (hn:vs.length = n) (ho:ce vs = true) (H:st (b,off) vs K h):hpu P (Instr.storeAt T (.pointer (some ⟨b,off,none⟩)) v) K h:=by
 refine ⟨?_⟩;obtain ⟨c,T',fr,hb,hnf,hlen,hS⟩:=H;obtain ⟨inf,hi1,hi2⟩:=hT;have hsz:v.cells.size = n:=by rw [← Array.length_toList,hvs,hn]
 have e2:Instr.storeAt T (.pointer (some ⟨b,off,none⟩)) v = storeVar T ⟨b,off,none⟩ v:=rfl;rw [e2];unfold storeVar;rw [bF];unfold sizeOf typeInfo;rw [bF,bF,tQ];simp only [hi1,yf];rw [hi2,if_neg (by simp [hsz])];rw [hvs];exact iS vs 0 off c h hb hnf (by simpa using hlen) ho hS
end
section
open Go Mb
def RM.zero (m:RM) (f:Nat):RM:={ m with M:=fun i a=>if i = f then 0 else m.M i a }
theorem RF.zero {m:RM} {c:List Value} (H:RF m c) {f:Nat} (hf:f < 16):RF (m.zero f) (wr c (259 + f * 16) (replicate 16 (.int .u64 0))):=by
 have hl:=H.len;have h16:(replicate 16 (Value.int .u64 0)).length = 16:=length_replicate;have hb:259 + f * 16 + (replicate 16 (Value.int .u64 0)).length <= c.length:=by rw [h16]; omega
 have g:=wr_get (replicate 16 (Value.int .u64 0)) c (259 + f * 16);refine ⟨by rw [sQ]; exact hl,?_,?_,?_,fun i b hi hb' j v hv=>?_,fun i b hi hb' j v hv=>?_,fun i b hi hb'=>?_⟩
 ·rw [g _ hb,if_neg (by omega)]; exact H.z0
 ·rw [g _ hb,if_neg (by omega)]; exact H.z1
 ·rw [g _ hb,if_neg (by omega)]; exact H.z2
 ·have hj:j < 5:=by have:=(List.getElem?_eq_some_iff.1 hv).1; rw [gZ] at this; exact this
  rw [g _ hb,h16,if_neg (by omega)]; exact H.sl i b hi hb' j v hv
 ·have hj:j < 3:=by have:=(List.getElem?_eq_some_iff.1 hv).1; rw [fK] at this; exact this
  rw [g _ hb,h16,if_neg (by omega)]; exact H.pt i b hi hb' j v hv
 ·rw [g _ hb,h16];by_cases h:i = f
  ·subst h;rw [if_pos (by omega),List.getElem?_replicate,if_pos (by omega)];rw [show (m.zero i).M i b = 0 from if_pos rfl]
  ·rw [if_neg (by omega),show (m.zero f).M i b = m.M i b from if_neg h]; exact H.me i b hi hb'
theorem rfree_in {m:RM} (hf:0 <= m.z.fUa/\m.z.fUa <= 16) {x:Int} (h:x ∈ rfree m):0 <= x/\x < 16:=by
 unfold rfree ov at h;obtain ⟨n,h1,rfl⟩:=List.mem_map.1 h;have:=mem_range.1 (List.mem_filter.1 h1).1;omega
theorem rbelow_in {m:RM} {q p:bf} (h:p ∈ mg m q):bf.in_ p:=by
 unfold mg iH at h;obtain ⟨n,h1,rfl⟩:=List.mem_map.1 h;have:=mem_range.1 (List.mem_filter.1 h1).1;unfold pl bf.in_;simp only;omega
def xJ (r:Int × RM):(bY × Bool) × RM:=((⟨r.1,0⟩,true),r.2)
def kO (m:RM) (e:Nat) (c:bv):List bf:=if c.e0 = 5 then mg m ⟨e,c.e1⟩++[⟨e,c.e1⟩] else mg m ⟨e,c.e1⟩
def xK (m:RM) (e s:Nat):Int × RM :=
 if (m.S e s).fIs = true then (4,m) else match rfree m with
  | []=>(6,m)
  | f::_=>(0,(m.zero f.toNat).setS e s ⟨true,f,3,-1,0⟩)
def rsleep (m:RM) (e:Nat) (c:bv):bY × Bool :=
 if (m.S e c.e1.toNat).fIs = false then (⟨3,0⟩,true) else if (m.S e c.e1.toNat).fCa.tmod 2 = 0 then (⟨5,0⟩,true)
 else if eo c.e3 (m.M (m.S e c.e1.toNat).fEa.toNat c.e2.toNat) c.e4 = false then (⟨0,0⟩,false) else (⟨0,m.M (m.S e c.e1.toNat).fEa.toNat c.e2.toNat⟩,true)
def gg (m:RM) (e:Nat) (c:bv):(bY × Bool) × RM :=
 if c.e0 = 1 then xJ (xK m e c.e1.toNat)
 else if c.e0 = 2 then xJ (dq m e c.e1.toNat e c.e2.toNat c.e3)
 else if c.e0 = 3 then xJ (dq m e c.e1.toNat c.e2.toNat c.e3.toNat c.e4)
 else if c.e0 = 4\/c.e0 = 5 then if (m.S e c.e1.toNat).fIs = false then ((⟨3,0⟩,true),m) else ((⟨0,u64.wrap (kO m e c).length⟩,true),lZ m (kO m e c))
 else if c.e0 = 6\/c.e0 = 7\/c.e0 = 8 then xJ (kg m e c.e0 c)
 else if c.e0 = 9 then (rsleep m e c,m)
 else if c.e0 = 10 then ((⟨0,0⟩,true),m)
 else if bk (m.Q e c.e1.toNat).fCa c.e0 = false then ((⟨7,0⟩,true),m)
 else ((⟨0,(si m (m.Q e c.e1.toNat).fEa.toNat c.e0 c).1⟩,true),(si m (m.Q e c.e1.toNat).fEa.toNat c.e0 c).2)
def rdo (m:RM) (e:Int) (c:bv):(bY × Bool) × RM :=
 if e < 0\/e >= m.z.fHa then ((⟨10,0⟩,true),m) else if Word.check c m.z.fHa ≠ 0 then ((⟨Word.check c m.z.fHa,0⟩,true),m) else gg m e.toNat c
theorem inf_16u:∃ i,prog.info? fe = some i/\i.size = 16:=rH (by kernel_rfl)
section
variable {b:Nat} {m:RM} {e:Nat} {c:bv} {h:Hp}
def RK (b:Nat) (D:(bY × Bool) × RM):bY × Bool->As:=fun v=>pa_ (v = D.1) [cj (some (b,0)) D.2]
theorem rk {D:(bY × Bool) × RM} {v:bY × Bool} {m':RM} (hD:D = (v,m')) (s:ah [cj (some (b,0)) m'] h):RK b D v h:=by
 subst hD;exact aw rfl s
theorem do_alloc {D:(bY × Bool) × RM} (W:RW m) (he:e < 4) (h1:0 <= c.e1/\c.e1 < 8) (hD:D = xJ (xK m e c.e1.toNat)) (s0:ah [cj (some (b,0)) m] h) :
  cl prog dX [(.pointer (some ⟨b,0,none⟩))] av (fun r77 =>
gd (0 <= (e:Int)/\(e:Int) < 4) <|
gd (0 <= c.e1/\c.e1 < 8) <|
ld (b,0 + 3 + Int.toNat (e:Int) * 40 + Int.toNat c.e1 * 5 + 0) cB fun x87 =>
br x87 (
RK b D ((az 4).1,(az 4).2)) (
br ((r77.len:Int) == 0) (
RK b D ((az 6).1,(az 6).2)) (
ix r77 0 fun q99 =>
dL (
ld (q99.1,q99.2 + Int.toNat 0 * 1) (cI .i64) fun x100 =>
hpv prog (Instr.build fe #[]) encL fun (v101:(List Value)) =>
gd (0 <= x100/\x100 < 16) <|
hpu prog (Instr.storeAt fe (.pointer (some ⟨b,0 + 259 + Int.toNat x100 * 16,none⟩)) (.agg v101.toArray)) <|
ld (q99.1,q99.2 + Int.toNat 0 * 1) (cI .i64) fun x111 =>
st (b,0 + 3 + Int.toNat (e:Int) * 40 + Int.toNat c.e1 * 5) (aq.C (⟨true,x111,3,(-1),0⟩:aq)) <|
bq (RK b D) (⟨0,0⟩:ad)) (
hpv prog (Instr.build fe #[]) encL fun (v101:(List Value)) =>
ld (q99.1,q99.2 + Int.toNat 0 * 1) (cI .i64) fun x100 =>
gd (0 <= x100/\x100 < 16) <|
hpu prog (Instr.storeAt fe (.pointer (some ⟨b,0 + 259 + Int.toNat x100 * 16,none⟩)) (.agg v101.toArray)) <|
ld (q99.1,q99.2 + Int.toNat 0 * 1) (cI .i64) fun x111 =>
st (b,0 + 3 + Int.toNat (e:Int) * 40 + Int.toNat c.e1 * 5) (aq.C (⟨true,x111,3,(-1),0⟩:aq)) <|
bq (RK b D) (⟨0,0⟩:ad))))) h:=by
 obtain ⟨s,hs⟩:=eq_ofNat_of_zero_le h1.1;have es:c.e1.toNat = s:=by omega
 refine sM (i:=0) (sp_ref_Free (some (b,0)) m W.fn) rfl s0 fun r h2 s1=>?_;have s1:ah [vI r (rfree m),cj (some (b,0)) m] h2:=s1;have hrl:=(aX (j:=0) s1 rfl).1;obtain ⟨b',cs,hbb,H,s2⟩:=ow (aA [1] s1 rfl);cases hbb;have s2:ah [blk b ay cs,vI r (rfree m)] h2:=s2;have back:ah [cj (some (b,0)) m] h2:=aT (l:=[_]) s1;refine ⟨⟨by omega,by omega⟩,h1,?_⟩;refine rd_is (j:=0) (e:=e) (s:=s) H s2 rfl he (by omega) (by simp [es]) ?_;refine ar (fun k1=>?_) (fun k1=>?_)
 ·exact rk (by rw [hD]; unfold xK; rw [es,if_pos k1]; rfl) back
 refine ar (fun k2=>?_) (fun k2=>?_)
 ·have hn:rfree m = []:=by rw [hrl] at k2; exact List.length_eq_zero_iff.1 (by simpa using k2)
  refine rk ?_ back;rw [hD]; unfold xK; rw [es,if_neg (by rw [k1]; simp),hn]; rfl
 ·cases hfr:rfree m with
  | nil=>rw [hrl,hfr] at k2; cases k2
  | cons f fr =>
   have hfin:=rfree_in W.fn (x:=f) (by rw [hfr]; exact List.mem_cons_self);obtain ⟨n,hn⟩:=eq_ofNat_of_zero_le hfin.1;have en:f.toNat = n:=by omega
   have hD2:D = ((⟨0,0⟩,true),(m.zero n).setS e s ⟨true,f,3,-1,0⟩):=by rw [hD]; unfold xK; rw [es,if_neg (by rw [k1]; simp),hfr,← en]; rfl
   rw [hfr] at s2;refine bE (i:=0) s2 (j:=1) rfl (by decide) (by simp) fun q hq=>?_;have L:∀ {K:Int->Hp->Prop},K f h2->ld (q.1,q.2 + Int.toNat 0 * 1) (cI .i64) K h2:=fun k=>bK (j:=1) (i:=0) (k:=0) f (bd _) s2 rfl hq rfl rfl (by simp) k;have T:gd (0 <= f/\f < 16) (hpu prog (Instr.storeAt fe (.pointer (some ⟨b,0 + 259 + Int.toNat f * 16,none⟩)) (.agg (replicate 16 (Value.int .u64 0)).toArray)) <|
     ld (q.1,q.2 + Int.toNat 0 * 1) (cI .i64) fun x111 =>
     st (b,0 + 3 + Int.toNat (e:Int) * 40 + Int.toNat c.e1 * 5) (aq.C (⟨true,x111,3,(-1),0⟩:aq)) <|
     bq (RK b D) (⟨0,0⟩:ad)) h2:=by
    refine ⟨hfin,?_⟩;refine hpu_store (vs:=replicate 16 (Value.int .u64 0)) inf_16u (by rfl) (by rfl) (by rfl) ?_;refine mX (i:=0) s2 rfl (by rw [H.len]; simp [en]; omega) fun h3 s3=>?_;have e1:0 + 259 + Int.toNat f * 16 = 259 + n * 16:=by simp [en]
    have s3:ah [blk b ay (wr cs (0 + 259 + Int.toNat f * 16) (replicate 16 (Value.int .u64 0))),vI r (f::fr)] h3:=s3;rw [e1] at s3;have H2:=H.zero (f:=n) (by omega);refine bK (j:=1) (i:=0) (k:=0) f (bd _) s3 rfl hq rfl rfl (by simp) ?_;refine mX (i:=0) s3 rfl (by rw [gZ,H2.len]; simp [es]; omega) fun h4 s4=>?_;have e2:0 + 3 + Int.toNat (e:Int) * 40 + Int.toNat c.e1 * 5 = 3 + e * 40 + s * 5:=by simp [es]
    have s4:ah [blk b ay (wr (wr cs (259 + n * 16) (replicate 16 (Value.int .u64 0))) (0 + 3 + Int.toNat (e:Int) * 40 + Int.toNat c.e1 * 5) (aq.C ⟨true,f,3,-1,0⟩)),vI r (f::fr)] h4:=s4;rw [e2] at s4;unfold bq;exact rk hD2 (vq (H2.setS he (by omega) _) (aT (l:=[_]) (aA [1,0] s4 rfl)))
   exact ⟨L ⟨by rw [bld_16]; exact ⟨_,rfl,T⟩⟩,⟨by rw [bld_16]; exact ⟨_,rfl,L T⟩⟩⟩
end
end
end Go.Proofs.YtjcamacgclipiaaGreatDoor
