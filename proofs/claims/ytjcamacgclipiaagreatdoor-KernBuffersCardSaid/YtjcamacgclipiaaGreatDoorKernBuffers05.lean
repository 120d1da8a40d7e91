/- Part of the proof of: The law KernBuffers returns true for every input, and leaves its arguments as they were. -/
import Derived.Test.YtjcamacgclipiaaGreatDoorKernBuffers04
set_option linter.all false
set_option maxRecDepth 20000
set_option maxHeartbeats 4000000
namespace Go.Proofs.YtjcamacgclipiaaGreatDoor
open Go.Proofs.Tryz
open Go.IntKind (i64 u64)
open _root_.Int (fdiv zero_add)
open _root_.List (append_nil cons_append replicate take_length)
open _root_.Nat (zero_le)
section
open Go Mb
attribute [local irreducible] bM gR il Val Tx Tu Tn RV Res br nn ix gd ld st nw cl clv dL Lp ct
def gf (a0:Sl) (K:kT Sl):hT:=br a0.a.isNone ( K (⟨none,0,0,none⟩:Sl)) ( hpv prog (Instr.buildSlice da 0 #[]) dv fun (v5:Sl)=>hpv prog (Builtin.append_ #[da,da] da #[(sv v5),(sv a0)]) dv fun (v7:Sl)=>K v7)
theorem mf (a0:Sl) {K:kT Sl} {h:Hp} (H:gf a0 K h):cl prog dN [(sv a0)] dv K h:=J [] func59 H
def fI (a0:Sl) (a1:Int) (K:kT (Int × Bool)) (Rec2:kT (Int × Int)) (s1:Int × Int):hT:=br (decide (s1.1 < s1.2)) ( ix a0 (i64.wrap (fdiv (u64.wrap (i64.wrap (s1.1 + s1.2))) (2 ^ (min (Int.toNat 1) (IntKind.bits .u64))))) fun q24=>ld (q24.1,q24.2 + Int.toNat (i64.wrap (fdiv (u64.wrap (i64.wrap (s1.1 + s1.2))) (2 ^ (min (Int.toNat 1) (IntKind.bits .u64))))) * 1) (cI .u64) fun x25=>br (eP x25 a1) ( Rec2 ((i64.wrap ((i64.wrap (fdiv (u64.wrap (i64.wrap (s1.1 + s1.2))) (2 ^ (min (Int.toNat 1) (IntKind.bits .u64))))) + 1)),s1.2)) ( Rec2 (s1.1,(i64.wrap (fdiv (u64.wrap (i64.wrap (s1.1 + s1.2))) (2 ^ (min (Int.toNat 1) (IntKind.bits .u64)))))))) ( br (decide (s1.1 < (a0.len:Int))) ( ix a0 s1.1 fun q38=>ld (q38.1,q38.2 + Int.toNat s1.1 * 1) (cI .u64) fun x39=>br (!(x39 == a1)) ( ld (q38.1,q38.2 + Int.toNat s1.1 * 1) (cI .u64) fun x46=>K (s1.1,((dr x46) && (dr a1)))) ( K (s1.1,true))) ( K (s1.1,false)))
def fJ (a0:Sl) (a1:Int) (K:kT (Int × Bool)):hT:=Lp (fI a0 a1 K) (0,(a0.len:Int))
theorem lF (a0:Sl) (a1:Int) {K:kT (Int × Bool)} {h:Hp} (H:fJ a0 a1 K h):cl prog dI [(sv a0),(.int .u64 a1)] aR K h:=have z0:LH (σ:=Int × Int) 3 0 (fun s1 r=>(7,(.int .i64 s1.1))::(8,(.int .i64 s1.2))::r) [7,8] [0,1,6] (fun _ l=>l):=⟨⟩; J [] func173 H
def iF (a0:Sl) (a1:Int) (a2:Sl) (K:kT Sl):hT:=hpv prog (Instr.sliceAt aG (sv a0) (some (.int .i64 a1)) none none) bi fun (v12:Sl)=>br ((a2.len:Int) == 0) ( K a0) ( br (a1 == (a0.len:Int)) ( hpv prog (Builtin.append_ #[aG,aG] aG #[(sv a0),(sv a2)]) bi fun (v25:Sl)=>K v25) ( br (decide ((i64.wrap ((a0.len:Int) + (a2.len:Int))) > (a0.cap:Int))) ( hpv prog (Instr.sliceAt aG (sv a0) none (some (.int .i64 a1)) none) bi fun (v34:Sl)=>hpv prog (Builtin.append_ #[aG,kv] aG #[(sv v34),(.int .i64 (i64.wrap ((i64.wrap ((a0.len:Int) + (a2.len:Int))) - a1)))]) bi fun (v40:Sl)=>hpv prog (Instr.sliceAt aG (sv v40) (some (.int .i64 a1)) none none) bi fun (v43:Sl)=>hpv prog (Builtin.copy_ #[aG,aG] kv #[(sv v43),(sv a2)]) cH fun (v45:Int)=>dL ( hpv prog (Instr.sliceAt aG (sv v40) (some (.int .i64 (i64.wrap (a1 + (a2.len:Int))))) none none) bi fun (v50:Sl)=>hpv prog (Instr.sliceAt aG (sv a0) (some (.int .i64 a1)) none none) bi fun (v53:Sl)=>hpv prog (Builtin.copy_ #[aG,aG] kv #[(sv v50),(sv v53)]) cH fun (v54:Int)=>K v40) ( hpv prog (Instr.sliceAt aG (sv a0) (some (.int .i64 a1)) none none) bi fun (v53:Sl)=>hpv prog (Instr.sliceAt aG (sv v40) (some (.int .i64 (i64.wrap (a1 + (a2.len:Int))))) none none) bi fun (v50:Sl)=>hpv prog (Builtin.copy_ #[aG,aG] kv #[(sv v50),(sv v53)]) cH fun (v54:Int)=>K v40)) ( hpv prog (Instr.sliceAt aG (sv a0) none (some (.int .i64 (i64.wrap ((a0.len:Int) + (a2.len:Int))))) none) bi fun (v60:Sl)=>hpv prog (Instr.sliceAt aG (sv v60) (some (.int .i64 (i64.wrap (a1 + (a2.len:Int))))) none none) bi fun (v66:Sl)=>cln prog (callFunc vu #[(sv a2),(sv v66)]) ai fun (v67:Bool)=>br (!v67) ( dL ( hpv prog (Instr.sliceAt aG (sv v60) (some (.int .i64 (i64.wrap (a1 + (a2.len:Int))))) none none) bi fun (v73:Sl)=>hpv prog (Instr.sliceAt aG (sv v60) (some (.int .i64 a1)) none none) bi fun (v76:Sl)=>hpv prog (Builtin.copy_ #[aG,aG] kv #[(sv v73),(sv v76)]) cH fun (v77:Int)=>hpv prog (Instr.sliceAt aG (sv v60) (some (.int .i64 a1)) none none) bi fun (v80:Sl)=>hpv prog (Builtin.copy_ #[aG,aG] kv #[(sv v80),(sv a2)]) cH fun (v82:Int)=>K v60) ( hpv prog (Instr.sliceAt aG (sv v60) (some (.int .i64 a1)) none none) bi fun (v76:Sl)=>hpv prog (Instr.sliceAt aG (sv v60) (some (.int .i64 (i64.wrap (a1 + (a2.len:Int))))) none none) bi fun (v73:Sl)=>hpv prog (Builtin.copy_ #[aG,aG] kv #[(sv v73),(sv v76)]) cH fun (v77:Int)=>hpv prog (Instr.sliceAt aG (sv v60) (some (.int .i64 a1)) none none) bi fun (v80:Sl)=>hpv prog (Builtin.copy_ #[aG,aG] kv #[(sv v80),(sv a2)]) cH fun (v82:Int)=>K v60)) ( hpv prog (Instr.sliceAt aG (sv v60) (some (.int .i64 (a0.len:Int))) none none) bi fun (v86:Sl)=>hpv prog (Builtin.copy_ #[aG,aG] kv #[(sv v86),(sv a2)]) cH fun (v88:Int)=>hpv prog (Instr.sliceAt aG (sv v60) (some (.int .i64 a1)) none none) bi fun (v91:Sl)=>cl prog sF [(sv v91),(.int .i64 (a2.len:Int))] R_ fun (_:Unit)=>K v60))))
theorem oU (a0:Sl) (a1:Int) (a2:Sl) {K:kT Sl} {h:Hp} (H:iF a0 a1 a2 K h):cl prog cG [(sv a0),(.int .i64 a1),(sv a2)] bi K h:=have z0:OH 11 [0,4,8,12,20,24] (.b 4 7 [30,34] .e [18,34] .e) []:=⟨⟩; have z1:OH 15 [0,4,8,12,20,24] (.b 4 7 [30,34] .e [18,34] .e) []:=⟨⟩; J [] func174 H
def nv (a0:Sl) (a1:Int) (K:kT Int) (Rec2:kT Int) (s1:Int):hT:=br (decide (s1 < (a0.len:Int))) ( ix a0 s1 fun q14=>ld (q14.1,q14.2 + Int.toNat s1 * 1) (cI .i64) fun x15=>br (a1 == x15) ( K s1) ( Rec2 (i64.wrap (s1 + 1)))) ( K (-1))
def ny (a0:Sl) (a1:Int) (K:kT Int):hT:=Lp (nv a0 a1 K) 0
theorem vg (a0:Sl) (a1:Int) {K:kT Int} {h:Hp} (H:ny a0 a1 K h):cl prog jv [(sv a0),(.int .i64 a1)] cH K h:=have z0:LH (σ:=Int) 2 0 (fun s1 r=>(8,(.int .i64 s1))::r) [8] [0,1,7] (fun _ l=>l):=⟨⟩; J [] func202 H
def dM (a0:Sl) (a1:Int) (a3:Value) (Rec2:kT Int) (s1:Int) (Rec7:kT Int) (s6:Int):hT:=br (decide (s6 > a1)) ( ix a0 s6 fun q25=>ix a0 (i64.wrap (s6 - 1)) fun q30=>ld (q25.1,q25.2 + Int.toNat s6 * 1) (cI .i64) fun x26=>ld (q30.1,q30.2 + Int.toNat (i64.wrap (s6 - 1)) * 1) (cI .i64) fun x31=>clv prog a3 [(.int .i64 x26),(.int .i64 x31)] cH fun r32=>br (decide (r32 < 0)) ( ld (q30.1,q30.2 + Int.toNat (i64.wrap (s6 - 1)) * 1) (cI .i64) fun x46=>ld (q25.1,q25.2 + Int.toNat s6 * 1) (cI .i64) fun x50=>st (q25.1,q25.2 + Int.toNat s6 * 1) [.int .i64 x46]<|st (q30.1,q30.2 + Int.toNat (i64.wrap (s6 - 1)) * 1) [.int .i64 x50]<|Rec7 (i64.wrap (s6 - 1))) ( Rec2 (i64.wrap (s1 + 1)))) ( Rec2 (i64.wrap (s1 + 1)))
def cJ (a0:Sl) (a1:Int) (a2:Int) (a3:Value) (K:kT Unit) (Rec2:kT Int) (s1:Int):hT:=br (decide (s1 < a2)) ( Lp (dM a0 a1 a3 Rec2 s1) s1) ( K ())
def gq (a0:Sl) (a1:Int) (a2:Int) (a3:Value) (K:kT Unit):hT:=Lp (cJ a0 a1 a2 a3 K) (i64.wrap (a1 + 1))
theorem mI (a0:Sl) (a1:Int) (a2:Int) (a3:Value) {K:kT Unit} {h:Hp} (H:gq a0 a1 a2 a3 K h):cl prog aY [(sv a0),(.int .i64 a1),(.int .i64 a2),a3] R_ K h:=z_i func193 p p fun _=>V<|O p<|U (kI p p)<|W p<|eD<|qx (step:=cJ a0 a1 a2 a3 K) (fun s1=>[(0,(sv a0)),(1,(.int .i64 a1)),(2,(.int .i64 a2)),(3,a3),(8,(.int .i64 s1))]) (fun s1=>[]) H (.cons p<|.cons p<|.cons p<|.cons p<|.cons p<|.nil _) .slnil fun Rec2 s1 _ H3=>dy<|V<|O p<|O p<|U (xc p p)<|du<|mb p H3 (fun k4 H5=>fY<|dy<|eD<|V<|O p<|W p<|eD<|qx (step:=dM a0 a1 a3 Rec2 s1) (fun s6=>[(0,(sv a0)),(1,(.int .i64 a1)),(2,(.int .i64 a2)),(3,a3),(8,(.int .i64 s1)),(9,(.int .i64 s6))]) (fun s6=>[]) H5 (.cons p<|.cons p<|.cons p<|.cons p<|.cons p<|.cons p<|.nil _) .slnil fun Rec7 s6 _ H8=>dy<|dy<|oQ (n:=17) [] mixed p .slnil<|M 0 p (aV p)<|M 1 p (aV p)<|M 2 p (v_gt p p)<|M 3 p (aV p)<|eva_br H8 (fun k9 H10=>I 4 p (Z k9) (ve<|aV p)<|I 5 p (Z k9) (ve<|aV p)<|I 6 p (Z k9) (ve<|aV p)<|I 9 p (Z k9) (ve<|aV p)<|I 10 p (Z k9) (ve<|aV p)<|I 11 p (Z k9) (ve<|rK p p)<|oO H10 fun q25 e11 h12 H13=>I 7 p (Z k9) (ve<|fd fP.ok (kH p<|cN e11) p h12)<|oO H13 fun q30 e14 h15 H16=>I 12 p (Z k9) (ve<|fd fP.ok (kH p<|cN e14) p h15)<|eva_ldg (i:=8) (fun _ _ _ _ hh=>hh) H16 p (by kernel_rfl) p p p (Z k9) eK.ok p (fun _=>p) p fun x26 H17=>eva_ldg (i:=13) (fun _ _ _ _ hh=>hh) H17 p (by kernel_rfl) p p p (Z k9) eK.ok p (fun _=>p) p fun x31 H18=>eva_1 (i:=14) (by kernel_rfl)<|way_on p p p p (Z k9)<|to_clv H18 p p p fun r32 _ H19=>⟨.slnil,I 15 p (Z k9) (ve<|xc p p)<|M 16 p (nQ p k9 p)<|mU (by kernel_rfl)<|mb p H19 (fun k20 H21=>fY<|dy<|eD<|oQ (n:=18) [] mixed p .slnil<|M 0 p (aV p)<|M 1 p (aV p)<|M 2 p (aV p)<|M 3 p (aV p)<|M 4 p (rK p p)<|M 5 p (aV p)<|M 6 p (aV p)<|M 7 p (rK p p)<|M 8 p (fd fP.ok (kH p<|cN e14) p h15)<|M 10 p (aV p)<|M 11 p (aV p)<|M 12 p (fd fP.ok (kH p<|cN e11) p h12)<|nq (i:=9) (fun _ _ _ _ hh=>hh) H21 p (by kernel_rfl) eK.ok p (fun _=>p) p fun x46 H22=>nq (i:=13) (fun _ _ _ _ hh=>hh) H22 p (by kernel_rfl) eK.ok p (fun _=>p) p fun x50 H23=>M 14 p (fd fP.ok (kH p<|cN e11) p h12)<|F 15 p<|to_st inf_3.ok p p p p p H23 fun _ H24=>⟨.slnil,M 16 p (fd fP.ok (kH p<|cN e14) p h15)<|F 17 p<|to_st inf_3.ok p p p p p H24 fun _ H25=>⟨.slnil,mU (by kernel_rfl)<|cU<|O p<|U (rK p p)<|W p<|lp_i (i64.wrap (s6 - 1)) H25 (.cons p<|.cons p<|.cons p<|.cons p<|.cons p<|.cons p<|.nil _) .slnil⟩⟩) fun k20 H21=>oP<|cU<|O p<|U (kI p p)<|W p<|lp_i (i64.wrap (s1 + 1)) H21 (.cons p<|.cons p<|.cons p<|.cons p<|.cons p<|.nil _) .slnil⟩) fun k9 H10=>G 4 p (uL k9)<|G 5 p (uL k9)<|G 6 p (uL k9)<|G 7 p (uL k9)<|G 8 p (uL k9)<|G 9 p (uL k9)<|G 10 p (uL k9)<|G 11 p (uL k9)<|G 12 p (uL k9)<|G 13 p (uL k9)<|G 14 p (uL k9)<|G 15 p (uL k9)<|M 16 p (nR p k9 p)<|mU (by kernel_rfl)<|ev_no p p<|oP<|cU<|O p<|U (kI p p)<|W p<|lp_i (i64.wrap (s1 + 1)) H10 (.cons p<|.cons p<|.cons p<|.cons p<|.cons p<|.nil _) .slnil) fun k4 H5=>oP<|end_i (res_0 p) ⟨(),p,H5⟩
def eO (a0:Sl) (a1:Int) (a2:Int) (a3:Int) (K:kT Unit) (Rec2:kT Int) (s1:Int):hT:=br (decide (s1 < a3)) ( ix a0 (i64.wrap (a2 + s1)) fun q28=>ix a0 (i64.wrap (a1 + s1)) fun q34=>ld (q28.1,q28.2 + Int.toNat (i64.wrap (a2 + s1)) * 1) (cI .i64) fun x29=>ld (q34.1,q34.2 + Int.toNat (i64.wrap (a1 + s1)) * 1) (cI .i64) fun x35=>st (q34.1,q34.2 + Int.toNat (i64.wrap (a1 + s1)) * 1) [.int .i64 x29]<|st (q28.1,q28.2 + Int.toNat (i64.wrap (a2 + s1)) * 1) [.int .i64 x35]<|Rec2 (i64.wrap (s1 + 1))) ( K ())
def iE (a0:Sl) (a1:Int) (a2:Int) (a3:Int) (a4:Value) (K:kT Unit):hT:=Lp (eO a0 a1 a2 a3 K) 0
theorem oT (a0:Sl) (a1:Int) (a2:Int) (a3:Int) (a4:Value) {K:kT Unit} {h:Hp} (H:iE a0 a1 a2 a3 a4 K h):cl prog bZ [(sv a0),(.int .i64 a1),(.int .i64 a2),(.int .i64 a3),a4] R_ K h:=z_i func227 p p fun _=>V<|W p<|eD<|qx (step:=eO a0 a1 a2 a3 K) (fun s1=>[(0,(sv a0)),(1,(.int .i64 a1)),(2,(.int .i64 a2)),(3,(.int .i64 a3)),(10,(.int .i64 s1))]) (fun s1=>[]) H (.cons p<|.cons p<|.cons p<|.cons p<|.cons p<|.nil _) .slnil fun Rec2 s1 _ H3=>dy<|V<|O p<|O p<|U (xc p p)<|du<|mb p H3 (fun k4 H5=>fY<|dy<|eD<|oQ (n:=24) [] mixed p .slnil<|M 0 p (aV p)<|M 1 p (aV p)<|M 2 p (aV p)<|M 3 p (kI p p)<|M 4 p (aV p)<|M 5 p (aV p)<|M 6 p (aV p)<|M 7 p (kI p p)<|M 8 p (aV p)<|M 9 p (aV p)<|M 10 p (aV p)<|M 11 p (kI p p)<|M 14 p (aV p)<|M 15 p (aV p)<|M 16 p (aV p)<|M 17 p (kI p p)<|oO H5 fun q28 e6 h7 H8=>M 12 p (fd fP.ok (kH p<|cN e6) p h7)<|oO H8 fun q34 e9 h10 H11=>M 18 p (fd fP.ok (kH p<|cN e9) p h10)<|nq (i:=13) (fun _ _ _ _ hh=>hh) H11 p (by kernel_rfl) eK.ok p (fun _=>p) p fun x29 H12=>nq (i:=19) (fun _ _ _ _ hh=>hh) H12 p (by kernel_rfl) eK.ok p (fun _=>p) p fun x35 H13=>M 20 p (fd fP.ok (kH p<|cN e9) p h10)<|F 21 p<|to_st inf_3.ok p p p p p H13 fun _ H14=>⟨.slnil,M 22 p (fd fP.ok (kH p<|cN e6) p h7)<|F 23 p<|to_st inf_3.ok p p p p p H14 fun _ H15=>⟨.slnil,mU (by kernel_rfl)<|cU<|O p<|U (kI p p)<|W p<|lp_i (i64.wrap (s1 + 1)) H15 (.cons p<|.cons p<|.cons p<|.cons p<|.cons p<|.nil _) .slnil⟩⟩) fun k4 H5=>oP<|end_i (res_0 p) ⟨(),p,H5⟩
def kx (a0:Sl) (a2:Int) (a4:Value) (K:kT Unit) (Rec2:kT (Int × Int)) (s1:Int × Int):hT:=br (s1.1 != s1.2) ( br (decide (s1.1 > s1.2)) ( cl prog bZ [(sv a0),(.int .i64 (i64.wrap (a2 - s1.1))),(.int .i64 a2),(.int .i64 s1.2),a4] R_ fun (_:Unit)=>Rec2 ((i64.wrap (s1.1 - s1.2)),s1.2)) ( cl prog bZ [(sv a0),(.int .i64 (i64.wrap (a2 - s1.1))),(.int .i64 (i64.wrap ((i64.wrap (a2 + s1.2)) - s1.1))),(.int .i64 s1.1),a4] R_ fun (_:Unit)=>Rec2 (s1.1,(i64.wrap (s1.2 - s1.1))))) ( cl prog bZ [(sv a0),(.int .i64 (i64.wrap (a2 - s1.1))),(.int .i64 a2),(.int .i64 s1.1),a4] R_ fun (_:Unit)=>K ())
def ky (a0:Sl) (a1:Int) (a2:Int) (a3:Int) (a4:Value) (K:kT Unit):hT:=Lp (kx a0 a2 a4 K) ((i64.wrap (a2 - a1)),(i64.wrap (a3 - a2)))
theorem rz (a0:Sl) (a1:Int) (a2:Int) (a3:Int) (a4:Value) {K:kT Unit} {h:Hp} (H:ky a0 a1 a2 a3 a4 K h):cl prog cu [(sv a0),(.int .i64 a1),(.int .i64 a2),(.int .i64 a3),a4] R_ K h:=have z0:LH (σ:=Int × Int) 2 0 (fun s1 r=>(10,(.int .i64 s1.1))::(11,(.int .i64 s1.2))::r) [10,11] [0,2,4] (fun _ l=>l):=⟨⟩; J [] func219 H
def fh (a0:Sl) (K:kT Unit) (s3:Int × Int) (Rec20:kT Int) (s19:Int):hT:=br (decide (s19 < (i64.wrap (s3.1 - 1)))) ( ix a0 (i64.wrap (s19 + 1)) fun q69=>ix a0 s19 fun q73=>ld (q69.1,q69.2 + Int.toNat (i64.wrap (s19 + 1)) * 1) (cI .i64) fun x70=>ld (q73.1,q73.2 + Int.toNat s19 * 1) (cI .i64) fun x74=>st (q73.1,q73.2 + Int.toNat s19 * 1) [.int .i64 x70]<|st (q69.1,q69.2 + Int.toNat (i64.wrap (s19 + 1)) * 1) [.int .i64 x74]<|Rec20 (i64.wrap (s19 + 1))) ( K ())
def dB (a0:Sl) (a1:Int) (a4:Value) (K:kT Unit) (Rec4:kT (Int × Int)) (s3:Int × Int):hT:=br (decide (s3.1 < s3.2)) ( ix a0 (i64.wrap (fdiv (u64.wrap (i64.wrap (s3.1 + s3.2))) (2 ^ (min (Int.toNat 1) (IntKind.bits .u64))))) fun q43=>ix a0 a1 fun q47=>ld (q43.1,q43.2 + Int.toNat (i64.wrap (fdiv (u64.wrap (i64.wrap (s3.1 + s3.2))) (2 ^ (min (Int.toNat 1) (IntKind.bits .u64))))) * 1) (cI .i64) fun x44=>ld (q47.1,q47.2 + Int.toNat a1 * 1) (cI .i64) fun x48=>clv prog a4 [(.int .i64 x44),(.int .i64 x48)] cH fun r49=>br (decide (r49 < 0)) ( Rec4 ((i64.wrap ((i64.wrap (fdiv (u64.wrap (i64.wrap (s3.1 + s3.2))) (2 ^ (min (Int.toNat 1) (IntKind.bits .u64))))) + 1)),s3.2)) ( Rec4 (s3.1,(i64.wrap (fdiv (u64.wrap (i64.wrap (s3.1 + s3.2))) (2 ^ (min (Int.toNat 1) (IntKind.bits .u64)))))))) ( Lp (fh a0 K s3) a1)
def ff (a0:Sl) (K:kT Unit) (s36:Int × Int) (Rec53:kT Int) (s52:Int):hT:=br (decide (s52 > s36.1)) ( ix a0 (i64.wrap (s52 - 1)) fun q121=>ix a0 s52 fun q125=>ld (q121.1,q121.2 + Int.toNat (i64.wrap (s52 - 1)) * 1) (cI .i64) fun x122=>ld (q125.1,q125.2 + Int.toNat s52 * 1) (cI .i64) fun x126=>st (q125.1,q125.2 + Int.toNat s52 * 1) [.int .i64 x122]<|st (q121.1,q121.2 + Int.toNat (i64.wrap (s52 - 1)) * 1) [.int .i64 x126]<|Rec53 (i64.wrap (s52 - 1))) ( K ())
def dA (a0:Sl) (a2:Int) (a4:Value) (K:kT Unit) (Rec37:kT (Int × Int)) (s36:Int × Int):hT:=br (decide (s36.1 < s36.2)) ( ix a0 a2 fun q95=>ix a0 (i64.wrap (fdiv (u64.wrap (i64.wrap (s36.1 + s36.2))) (2 ^ (min (Int.toNat 1) (IntKind.bits .u64))))) fun q99=>ld (q95.1,q95.2 + Int.toNat a2 * 1) (cI .i64) fun x96=>ld (q99.1,q99.2 + Int.toNat (i64.wrap (fdiv (u64.wrap (i64.wrap (s36.1 + s36.2))) (2 ^ (min (Int.toNat 1) (IntKind.bits .u64))))) * 1) (cI .i64) fun x100=>clv prog a4 [(.int .i64 x96),(.int .i64 x100)] cH fun r101=>br (!(decide (r101 < 0))) ( Rec37 ((i64.wrap ((i64.wrap (fdiv (u64.wrap (i64.wrap (s36.1 + s36.2))) (2 ^ (min (Int.toNat 1) (IntKind.bits .u64))))) + 1)),s36.2)) ( Rec37 (s36.1,(i64.wrap (fdiv (u64.wrap (i64.wrap (s36.1 + s36.2))) (2 ^ (min (Int.toNat 1) (IntKind.bits .u64)))))))) ( Lp (ff a0 K s36) a2)
def cE (a0:Sl) (a1:Int) (a2:Int) (a3:Int) (a4:Value) (K:kT Unit) (s69:Int × Int) (s87:Unit):hT:=br ((decide ((i64.wrap (fdiv (u64.wrap (i64.wrap (a1 + a3))) (2 ^ (min (Int.toNat 1) (IntKind.bits .u64))))) < (i64.wrap ((i64.wrap ((i64.wrap (fdiv (u64.wrap (i64.wrap (a1 + a3))) (2 ^ (min (Int.toNat 1) (IntKind.bits .u64))))) + a2)) - s69.1)))) && (decide ((i64.wrap ((i64.wrap ((i64.wrap (fdiv (u64.wrap (i64.wrap (a1 + a3))) (2 ^ (min (Int.toNat 1) (IntKind.bits .u64))))) + a2)) - s69.1)) < a3))) ( cl prog bm [(sv a0),(.int .i64 (i64.wrap (fdiv (u64.wrap (i64.wrap (a1 + a3))) (2 ^ (min (Int.toNat 1) (IntKind.bits .u64)))))),(.int .i64 (i64.wrap ((i64.wrap ((i64.wrap (fdiv (u64.wrap (i64.wrap (a1 + a3))) (2 ^ (min (Int.toNat 1) (IntKind.bits .u64))))) + a2)) - s69.1))),(.int .i64 a3),a4] R_ fun (_:Unit)=>K ()) ( K ())
def bc (a0:Sl) (a1:Int) (a2:Int) (a3:Int) (a4:Value) (K:kT Unit) (s69:Int × Int) (s85:Unit):hT:=br ((decide (a1 < s69.1)) && (decide (s69.1 < (i64.wrap (fdiv (u64.wrap (i64.wrap (a1 + a3))) (2 ^ (min (Int.toNat 1) (IntKind.bits .u64)))))))) ( cl prog bm [(sv a0),(.int .i64 a1),(.int .i64 s69.1),(.int .i64 (i64.wrap (fdiv (u64.wrap (i64.wrap (a1 + a3))) (2 ^ (min (Int.toNat 1) (IntKind.bits .u64)))))),a4] R_ fun (_:Unit)=>cE a0 a1 a2 a3 a4 K s69 ()) ( cE a0 a1 a2 a3 a4 K s69 ())
def dz (a0:Sl) (a1:Int) (a2:Int) (a3:Int) (a4:Value) (K:kT Unit) (Rec70:kT (Int × Int)) (s69:Int × Int):hT:=br (decide (s69.1 < s69.2)) ( ix a0 (i64.wrap ((i64.wrap ((i64.wrap ((i64.wrap (fdiv (u64.wrap (i64.wrap (a1 + a3))) (2 ^ (min (Int.toNat 1) (IntKind.bits .u64))))) + a2)) - 1)) - (i64.wrap (fdiv (u64.wrap (i64.wrap (s69.1 + s69.2))) (2 ^ (min (Int.toNat 1) (IntKind.bits .u64))))))) fun q163=>ix a0 (i64.wrap (fdiv (u64.wrap (i64.wrap (s69.1 + s69.2))) (2 ^ (min (Int.toNat 1) (IntKind.bits .u64))))) fun q167=>ld (q163.1,q163.2 + Int.toNat (i64.wrap ((i64.wrap ((i64.wrap ((i64.wrap (fdiv (u64.wrap (i64.wrap (a1 + a3))) (2 ^ (min (Int.toNat 1) (IntKind.bits .u64))))) + a2)) - 1)) - (i64.wrap (fdiv (u64.wrap (i64.wrap (s69.1 + s69.2))) (2 ^ (min (Int.toNat 1) (IntKind.bits .u64))))))) * 1) (cI .i64) fun x164=>ld (q167.1,q167.2 + Int.toNat (i64.wrap (fdiv (u64.wrap (i64.wrap (s69.1 + s69.2))) (2 ^ (min (Int.toNat 1) (IntKind.bits .u64))))) * 1) (cI .i64) fun x168=>clv prog a4 [(.int .i64 x164),(.int .i64 x168)] cH fun r169=>br (!(decide (r169 < 0))) ( Rec70 ((i64.wrap ((i64.wrap (fdiv (u64.wrap (i64.wrap (s69.1 + s69.2))) (2 ^ (min (Int.toNat 1) (IntKind.bits .u64))))) + 1)),s69.2)) ( Rec70 (s69.1,(i64.wrap (fdiv (u64.wrap (i64.wrap (s69.1 + s69.2))) (2 ^ (min (Int.toNat 1) (IntKind.bits .u64)))))))) ( br ((decide (s69.1 < a2)) && (decide (a2 < (i64.wrap ((i64.wrap ((i64.wrap (fdiv (u64.wrap (i64.wrap (a1 + a3))) (2 ^ (min (Int.toNat 1) (IntKind.bits .u64))))) + a2)) - s69.1))))) ( cl prog cu [(sv a0),(.int .i64 s69.1),(.int .i64 a2),(.int .i64 (i64.wrap ((i64.wrap ((i64.wrap (fdiv (u64.wrap (i64.wrap (a1 + a3))) (2 ^ (min (Int.toNat 1) (IntKind.bits .u64))))) + a2)) - s69.1))),a4] R_ fun (_:Unit)=>bc a0 a1 a2 a3 a4 K s69 ()) ( bc a0 a1 a2 a3 a4 K s69 ()))
def cF (a0:Sl) (a1:Int) (a2:Int) (a3:Int) (a4:Value) (K:kT Unit) (s67:Int × Int):hT:=Lp (dz a0 a1 a2 a3 a4 K) (s67.1,s67.2)
def jf (a0:Sl) (a1:Int) (a2:Int) (a3:Int) (a4:Value) (K:kT Unit):hT:=br ((i64.wrap (a2 - a1)) == 1) ( Lp (dB a0 a1 a4 K) (a2,a3)) ( br ((i64.wrap (a3 - a2)) == 1) ( Lp (dA a0 a2 a4 K) (a1,a2)) ( br (decide (a2 > (i64.wrap (fdiv (u64.wrap (i64.wrap (a1 + a3))) (2 ^ (min (Int.toNat 1) (IntKind.bits .u64))))))) ( cF a0 a1 a2 a3 a4 K ((i64.wrap ((i64.wrap ((i64.wrap (fdiv (u64.wrap (i64.wrap (a1 + a3))) (2 ^ (min (Int.toNat 1) (IntKind.bits .u64))))) + a2)) - a3)),(i64.wrap (fdiv (u64.wrap (i64.wrap (a1 + a3))) (2 ^ (min (Int.toNat 1) (IntKind.bits .u64))))))) ( cF a0 a1 a2 a3 a4 K (a1,a2))))
theorem pU (a0:Sl) (a1:Int) (a2:Int) (a3:Int) (a4:Value) {K:kT Unit} {h:Hp} (H:jf a0 a1 a2 a3 a4 K h):cl prog bm [(sv a0),(.int .i64 a1),(.int .i64 a2),(.int .i64 a3),a4] R_ K h:=z_i func194 p p fun _=>dy<|V<|O p<|O p<|U (rK p p)<|U (v_eq p p)<|du<|mb p H (fun k1 H2=>V<|O p<|W p<|V<|O p<|W p<|dy<|eD<|qx (step:=dB a0 a1 a4 K) (fun s3=>[(0,(sv a0)),(1,(.int .i64 a1)),(4,a4),(10,(.int .i64 s3.1)),(11,(.int .i64 s3.2))]) (fun s3=>[]) H2 (.cons p<|.cons p<|.cons p<|.cons p<|.cons p<|.nil _) .slnil fun Rec4 s3 _ H5=>dy<|V<|O p<|O p<|U (xc p p)<|du<|mb p H5 (fun k6 H7=>fY<|eD<|V<|O p<|O p<|U (kI p p)<|U (xd ⟨_,underlying3⟩ underlying265 p)<|U (v_shr p p (by decide))<|U (xd ⟨_,underlying265⟩ underlying3 p)<|W p<|dy<|oQ (n:=11) [] mixed p .slnil<|M 0 p (aV p)<|M 1 p (aV p)<|M 2 p (aV p)<|M 5 p (aV p)<|M 6 p (aV p)<|oO H7 fun q43 e8 h9 H10=>M 3 p (fd fP.ok (kH p<|cN e8) p h9)<|oO H10 fun q47 e11 h12 H13=>M 7 p (fd fP.ok (kH p<|cN e11) p h12)<|nq (i:=4) (fun _ _ _ _ hh=>hh) H13 p (by kernel_rfl) eK.ok p (fun _=>p) p fun x44 H14=>nq (i:=8) (fun _ _ _ _ hh=>hh) H14 p (by kernel_rfl) eK.ok p (fun _=>p) p fun x48 H15=>F 9 p<|to_clv H15 p p p fun r49 _ H16=>⟨.slnil,M 10 p (xc p p)<|mU (by kernel_rfl)<|mb p H16 (fun k17 H18=>cU<|O p<|U (kI p p)<|W p<|lp_i ((i64.wrap ((i64.wrap (fdiv (u64.wrap (i64.wrap (s3.1 + s3.2))) (2 ^ (min (Int.toNat 1) (IntKind.bits .u64))))) + 1)),s3.2) H18 (.cons p<|.cons p<|.cons p<|.cons p<|.cons p<|.nil _) .slnil) fun k17 H18=>cU<|O p<|W p<|lp_i (s3.1,(i64.wrap (fdiv (u64.wrap (i64.wrap (s3.1 + s3.2))) (2 ^ (min (Int.toNat 1) (IntKind.bits .u64)))))) H18 (.cons p<|.cons p<|.cons p<|.cons p<|.cons p<|.nil _) .slnil⟩) fun k6 H7=>oP<|dy<|V<|O p<|W p<|eD<|qx (step:=fh a0 K s3) (fun s19=>[(0,(sv a0)),(10,(.int .i64 s3.1)),(13,(.int .i64 s19))]) (fun s19=>[]) H7 (.cons p<|.cons p<|.cons p<|.nil _) .slnil fun Rec20 s19 _ H21=>dy<|V<|O p<|O p<|U (rK p p)<|U (xc p p)<|du<|mb p H21 (fun k22 H23=>fY<|dy<|eD<|oQ (n:=18) [] mixed p .slnil<|M 0 p (aV p)<|M 1 p (aV p)<|M 2 p (aV p)<|M 3 p (aV p)<|M 4 p (kI p p)<|M 5 p (aV p)<|M 6 p (aV p)<|M 7 p (kI p p)<|M 10 p (aV p)<|M 11 p (aV p)<|oO H23 fun q69 e24 h25 H26=>M 8 p (fd fP.ok (kH p<|cN e24) p h25)<|oO H26 fun q73 e27 h28 H29=>M 12 p (fd fP.ok (kH p<|cN e27) p h28)<|nq (i:=9) (fun _ _ _ _ hh=>hh) H29 p (by kernel_rfl) eK.ok p (fun _=>p) p fun x70 H30=>nq (i:=13) (fun _ _ _ _ hh=>hh) H30 p (by kernel_rfl) eK.ok p (fun _=>p) p fun x74 H31=>M 14 p (fd fP.ok (kH p<|cN e27) p h28)<|F 15 p<|to_st inf_3.ok p p p p p H31 fun _ H32=>⟨.slnil,M 16 p (fd fP.ok (kH p<|cN e24) p h25)<|F 17 p<|to_st inf_3.ok p p p p p H32 fun _ H33=>⟨.slnil,mU (by kernel_rfl)<|cU<|O p<|U (kI p p)<|W p<|lp_i (i64.wrap (s19 + 1)) H33 (.cons p<|.cons p<|.cons p<|.nil _) .slnil⟩⟩) fun k22 H23=>oP<|vC<|ret_i (res_0 p) ⟨(),p,H23⟩) fun k1 H2=>fY<|dy<|V<|O p<|O p<|U (rK p p)<|U (v_eq p p)<|du<|mb p H2 (fun k34 H35=>V<|O p<|W p<|V<|O p<|W p<|dy<|eD<|qx (step:=dA a0 a2 a4 K) (fun s36=>[(0,(sv a0)),(2,(.int .i64 a2)),(4,a4),(14,(.int .i64 s36.1)),(15,(.int .i64 s36.2))]) (fun s36=>[]) H35 (.cons p<|.cons p<|.cons p<|.cons p<|.cons p<|.nil _) .slnil fun Rec37 s36 _ H38=>dy<|V<|O p<|O p<|U (xc p p)<|du<|mb p H38 (fun k39 H40=>fY<|eD<|V<|O p<|O p<|U (kI p p)<|U (xd ⟨_,underlying3⟩ underlying265 p)<|U (v_shr p p (by decide))<|U (xd ⟨_,underlying265⟩ underlying3 p)<|W p<|dy<|oQ (n:=12) [] mixed p .slnil<|M 0 p (aV p)<|M 1 p (aV p)<|M 2 p (aV p)<|M 5 p (aV p)<|M 6 p (aV p)<|oO H40 fun q95 e41 h42 H43=>M 3 p (fd fP.ok (kH p<|cN e41) p h42)<|oO H43 fun q99 e44 h45 H46=>M 7 p (fd fP.ok (kH p<|cN e44) p h45)<|nq (i:=4) (fun _ _ _ _ hh=>hh) H46 p (by kernel_rfl) eK.ok p (fun _=>p) p fun x96 H47=>nq (i:=8) (fun _ _ _ _ hh=>hh) H47 p (by kernel_rfl) eK.ok p (fun _=>p) p fun x100 H48=>F 9 p<|to_clv H48 p p p fun r101 _ H49=>⟨.slnil,M 10 p (xc p p)<|M 11 p (v_not p)<|mU (by kernel_rfl)<|mb p H49 (fun k50 H51=>cU<|O p<|U (kI p p)<|W p<|lp_i ((i64.wrap ((i64.wrap (fdiv (u64.wrap (i64.wrap (s36.1 + s36.2))) (2 ^ (min (Int.toNat 1) (IntKind.bits .u64))))) + 1)),s36.2) H51 (.cons p<|.cons p<|.cons p<|.cons p<|.cons p<|.nil _) .slnil) fun k50 H51=>cU<|O p<|W p<|lp_i (s36.1,(i64.wrap (fdiv (u64.wrap (i64.wrap (s36.1 + s36.2))) (2 ^ (min (Int.toNat 1) (IntKind.bits .u64)))))) H51 (.cons p<|.cons p<|.cons p<|.cons p<|.cons p<|.nil _) .slnil⟩) fun k39 H40=>oP<|dy<|V<|O p<|W p<|eD<|qx (step:=ff a0 K s36) (fun s52=>[(0,(sv a0)),(14,(.int .i64 s36.1)),(17,(.int .i64 s52))]) (fun s52=>[]) H40 (.cons p<|.cons p<|.cons p<|.nil _) .slnil fun Rec53 s52 _ H54=>dy<|V<|O p<|O p<|U (v_gt p p)<|du<|mb p H54 (fun k55 H56=>fY<|dy<|eD<|oQ (n:=18) [] mixed p .slnil<|M 0 p (aV p)<|M 1 p (aV p)<|M 2 p (aV p)<|M 3 p (aV p)<|M 4 p (rK p p)<|M 5 p (aV p)<|M 6 p (aV p)<|M 7 p (rK p p)<|M 10 p (aV p)<|M 11 p (aV p)<|oO H56 fun q121 e57 h58 H59=>M 8 p (fd fP.ok (kH p<|cN e57) p h58)<|oO H59 fun q125 e60 h61 H62=>M 12 p (fd fP.ok (kH p<|cN e60) p h61)<|nq (i:=9) (fun _ _ _ _ hh=>hh) H62 p (by kernel_rfl) eK.ok p (fun _=>p) p fun x122 H63=>nq (i:=13) (fun _ _ _ _ hh=>hh) H63 p (by kernel_rfl) eK.ok p (fun _=>p) p fun x126 H64=>M 14 p (fd fP.ok (kH p<|cN e60) p h61)<|F 15 p<|to_st inf_3.ok p p p p p H64 fun _ H65=>⟨.slnil,M 16 p (fd fP.ok (kH p<|cN e57) p h58)<|F 17 p<|to_st inf_3.ok p p p p p H65 fun _ H66=>⟨.slnil,mU (by kernel_rfl)<|cU<|O p<|U (rK p p)<|W p<|lp_i (i64.wrap (s52 - 1)) H66 (.cons p<|.cons p<|.cons p<|.nil _) .slnil⟩⟩) fun k55 H56=>oP<|vC<|ret_i (res_0 p) ⟨(),p,H56⟩) fun k34 H35=>fY<|V<|O p<|O p<|U (kI p p)<|U (xd ⟨_,underlying3⟩ underlying265 p)<|U (v_shr p p (by decide))<|U (xd ⟨_,underlying265⟩ underlying3 p)<|W p<|V<|O p<|O p<|U (kI p p)<|W p<|V<|U (mB p)<|W p<|ev_cut (cF a0 a1 a2 a3 a4 K) (fun s67=>[(0,(sv a0)),(1,(.int .i64 a1)),(2,(.int .i64 a2)),(3,(.int .i64 a3)),(4,a4),(18,(.int .i64 (i64.wrap (fdiv (u64.wrap (i64.wrap (a1 + a3))) (2 ^ (min (Int.toNat 1) (IntKind.bits .u64))))))),(19,(.int .i64 (i64.wrap ((i64.wrap (fdiv (u64.wrap (i64.wrap (a1 + a3))) (2 ^ (min (Int.toNat 1) (IntKind.bits .u64))))) + a2)))),(20,(.int .i64 s67.1)),(21,(.int .i64 s67.2))]) (fun s67=>[]) (V<|O p<|O p<|U (v_gt p p)<|du<|mb p H35 (fun k107 H108=>V<|O p<|O p<|U (rK p p)<|W p<|cU<|O p<|W p<|cut_i ((i64.wrap ((i64.wrap ((i64.wrap (fdiv (u64.wrap (i64.wrap (a1 + a3))) (2 ^ (min (Int.toNat 1) (IntKind.bits .u64))))) + a2)) - a3)),(i64.wrap (fdiv (u64.wrap (i64.wrap (a1 + a3))) (2 ^ (min (Int.toNat 1) (IntKind.bits .u64)))))) H108 (.cons p<|.cons p<|.cons p<|.cons p<|.cons p<|.cons p<|.cons p<|.cons p<|.cons p<|.nil _) .slnil) fun k107 H108=>V<|O p<|W p<|cU<|O p<|W p<|cut_i (a1,a2) H108 (.cons p<|.cons p<|.cons p<|.cons p<|.cons p<|.cons p<|.cons p<|.cons p<|.cons p<|.nil _) .slnil) fun s67 _ H68=>V<|O p<|U (rK p p)<|W p<|dy<|eD<|qx (step:=dz a0 a1 a2 a3 a4 K) (fun s69=>[(0,(sv a0)),(1,(.int .i64 a1)),(2,(.int .i64 a2)),(3,(.int .i64 a3)),(4,a4),(18,(.int .i64 (i64.wrap (fdiv (u64.wrap (i64.wrap (a1 + a3))) (2 ^ (min (Int.toNat 1) (IntKind.bits .u64))))))),(19,(.int .i64 (i64.wrap ((i64.wrap (fdiv (u64.wrap (i64.wrap (a1 + a3))) (2 ^ (min (Int.toNat 1) (IntKind.bits .u64))))) + a2)))),(20,(.int .i64 s69.1)),(21,(.int .i64 s69.2)),(22,(.int .i64 (i64.wrap ((i64.wrap ((i64.wrap (fdiv (u64.wrap (i64.wrap (a1 + a3))) (2 ^ (min (Int.toNat 1) (IntKind.bits .u64))))) + a2)) - 1))))]) (fun s69=>[]) H68 (.cons p<|.cons p<|.cons p<|.cons p<|.cons p<|.cons p<|.cons p<|.cons p<|.cons p<|.cons p<|.nil _) .slnil fun Rec70 s69 _ H71=>dy<|V<|O p<|O p<|U (xc p p)<|du<|mb p H71 (fun k72 H73=>fY<|eD<|V<|O p<|O p<|U (kI p p)<|U (xd ⟨_,underlying3⟩ underlying265 p)<|U (v_shr p p (by decide))<|U (xd ⟨_,underlying265⟩ underlying3 p)<|W p<|dy<|oQ (n:=14) [] mixed p .slnil<|M 0 p (aV p)<|M 1 p (aV p)<|M 2 p (aV p)<|M 3 p (aV p)<|M 4 p (rK p p)<|M 7 p (aV p)<|M 8 p (aV p)<|oO H73 fun q163 e74 h75 H76=>M 5 p (fd fP.ok (kH p<|cN e74) p h75)<|oO H76 fun q167 e77 h78 H79=>M 9 p (fd fP.ok (kH p<|cN e77) p h78)<|nq (i:=6) (fun _ _ _ _ hh=>hh) H79 p (by kernel_rfl) eK.ok p (fun _=>p) p fun x164 H80=>nq (i:=10) (fun _ _ _ _ hh=>hh) H80 p (by kernel_rfl) eK.ok p (fun _=>p) p fun x168 H81=>F 11 p<|to_clv H81 p p p fun r169 _ H82=>⟨.slnil,M 12 p (xc p p)<|M 13 p (v_not p)<|mU (by kernel_rfl)<|mb p H82 (fun k83 H84=>cU<|O p<|U (kI p p)<|W p<|lp_i ((i64.wrap ((i64.wrap (fdiv (u64.wrap (i64.wrap (s69.1 + s69.2))) (2 ^ (min (Int.toNat 1) (IntKind.bits .u64))))) + 1)),s69.2) H84 (.cons p<|.cons p<|.cons p<|.cons p<|.cons p<|.cons p<|.cons p<|.cons p<|.cons p<|.cons p<|.nil _) .slnil) fun k83 H84=>cU<|O p<|W p<|lp_i (s69.1,(i64.wrap (fdiv (u64.wrap (i64.wrap (s69.1 + s69.2))) (2 ^ (min (Int.toNat 1) (IntKind.bits .u64)))))) H84 (.cons p<|.cons p<|.cons p<|.cons p<|.cons p<|.cons p<|.cons p<|.cons p<|.cons p<|.cons p<|.nil _) .slnil⟩) fun k72 H73=>oP<|V<|O p<|O p<|U (rK p p)<|W p<|ev_cut (bc a0 a1 a2 a3 a4 K s69) (fun s85=>[(0,(sv a0)),(1,(.int .i64 a1)),(3,(.int .i64 a3)),(4,a4),(18,(.int .i64 (i64.wrap (fdiv (u64.wrap (i64.wrap (a1 + a3))) (2 ^ (min (Int.toNat 1) (IntKind.bits .u64))))))),(20,(.int .i64 s69.1)),(24,(.int .i64 (i64.wrap ((i64.wrap ((i64.wrap (fdiv (u64.wrap (i64.wrap (a1 + a3))) (2 ^ (min (Int.toNat 1) (IntKind.bits .u64))))) + a2)) - s69.1))))]) (fun s85=>[]) (V<|O p<|O p<|U (xc p p)<|O p<|Y p p (lz _) (fun g101=>wv<|aV p)<|Y p p (lz _) (fun g102=>wv<|aV p)<|Y p p (lz _) (fun g103=>wv<|xc (iQ p g103)<|iQ p g103)<|U (v_and p p)<|du<|mb p H73 (fun k104 H105=>cU<|O p<|O p<|O p<|O p<|O p<|jA<|z_c H105 en_219.ok fun r191 _ H106=>du<|cut_i () H106 (.cons p<|.cons p<|.cons p<|.cons p<|.cons p<|.cons p<|.cons p<|.nil _) .slnil) fun k104 H105=>fY<|cut_i () H105 (.cons p<|.cons p<|.cons p<|.cons p<|.cons p<|.cons p<|.cons p<|.nil _) .slnil) fun s85 _ H86=>ev_cut (cE a0 a1 a2 a3 a4 K s69) (fun s87=>[(0,(sv a0)),(3,(.int .i64 a3)),(4,a4),(18,(.int .i64 (i64.wrap (fdiv (u64.wrap (i64.wrap (a1 + a3))) (2 ^ (min (Int.toNat 1) (IntKind.bits .u64))))))),(24,(.int .i64 (i64.wrap ((i64.wrap ((i64.wrap (fdiv (u64.wrap (i64.wrap (a1 + a3))) (2 ^ (min (Int.toNat 1) (IntKind.bits .u64))))) + a2)) - s69.1))))]) (fun s87=>[]) (V<|O p<|O p<|U (xc p p)<|O p<|Y p p (lz _) (fun g95=>wv<|aV p)<|Y p p (lz _) (fun g96=>wv<|aV p)<|Y p p (lz _) (fun g97=>wv<|xc (iQ p g97)<|iQ p g97)<|U (v_and p p)<|du<|mb p H86 (fun k98 H99=>cU<|O p<|O p<|O p<|O p<|O p<|jA<|z_c H99 en_194.ok fun r205 _ H100=>du<|cut_i () H100 (.cons p<|.cons p<|.cons p<|.cons p<|.cons p<|.nil _) .slnil) fun k98 H99=>fY<|cut_i () H99 (.cons p<|.cons p<|.cons p<|.cons p<|.cons p<|.nil _) .slnil) fun s87 _ H88=>V<|O p<|O p<|U (xc p p)<|O p<|Y p p (lz _) (fun g89=>wv<|aV p)<|Y p p (lz _) (fun g90=>wv<|aV p)<|Y p p (lz _) (fun g91=>wv<|xc (iQ p g91)<|iQ p g91)<|U (v_and p p)<|du<|mb p H88 (fun k92 H93=>cU<|O p<|O p<|O p<|O p<|O p<|jA<|z_c H93 en_194.ok fun r219 _ H94=>du<|end_i (res_0 p) ⟨(),p,H94⟩) fun k92 H93=>fY<|end_i (res_0 p) ⟨(),p,H93⟩
def kw (a0:Sl) (a1:Int) (a2:Value) (Rec9:kT Int) (s8:Int) (Rec14:kT (Int × Int)) (s13:Int × Int):hT:=br (decide (s13.2 <= a1)) ( cl prog bm [(sv a0),(.int .i64 s13.1),(.int .i64 (i64.wrap (s13.1 + s8))),(.int .i64 s13.2),a2] R_ fun (_:Unit)=>Rec14 (s13.2,(i64.wrap (s13.2 + (i64.wrap (2 * s8)))))) ( br (decide ((i64.wrap (s13.1 + s8)) < a1)) ( cl prog bm [(sv a0),(.int .i64 s13.1),(.int .i64 (i64.wrap (s13.1 + s8))),(.int .i64 a1),a2] R_ fun (_:Unit)=>Rec9 (i64.wrap (s8 * 2))) ( Rec9 (i64.wrap (s8 * 2))))
def bN (a0:Sl) (a1:Int) (a2:Value) (K:kT Unit) (Rec9:kT Int) (s8:Int):hT:=br (decide (s8 < a1)) ( Lp (kw a0 a1 a2 Rec9 s8) (0,(i64.wrap (2 * s8)))) ( K ())
def dV (a0:Sl) (a1:Int) (a2:Value) (K:kT Unit) (Rec2:kT (Int × Int)) (s1:Int × Int):hT:=br (decide (s1.2 <= a1)) ( cl prog aY [(sv a0),(.int .i64 s1.1),(.int .i64 s1.2),a2] R_ fun (_:Unit)=>Rec2 (s1.2,(i64.wrap (s1.2 + 20)))) ( cl prog aY [(sv a0),(.int .i64 s1.1),(.int .i64 a1),a2] R_ fun (_:Unit)=>Lp (bN a0 a1 a2 K) 20)
def fQ (a0:Sl) (a1:Int) (a2:Value) (K:kT Unit):hT:=Lp (dV a0 a1 a2 K) (0,20)
theorem jG (a0:Sl) (a1:Int) (a2:Value) {K:kT Unit} {h:Hp} (H:fQ a0 a1 a2 K h):cl prog kV [(sv a0),(.int .i64 a1),a2] R_ K h:=have z0:LH (σ:=Int × Int) 2 0 (fun s1 r=>(7,(.int .i64 s1.1))::(8,(.int .i64 s1.2))::r) [7,8] [0,1,2,6] (fun _ l=>l):=⟨⟩; have z1:LH (σ:=Int) 7 0 (fun s8 r=>(6,(.int .i64 s8))::r) [6] [0,1,2] (fun _ l=>l):=⟨⟩; have z2:LH (σ:=Int × Int) 9 0 (fun s13 r=>(7,(.int .i64 s13.1))::(8,(.int .i64 s13.2))::r) [7,8] [0,1,2,6] (fun _ l=>l):=⟨⟩; J [] func151 H
def eA (a0:Sl) (a1:Value) (K:kT Unit):hT:=cl prog kV [(sv a0),(.int .i64 (a0.len:Int)),a1] R_ fun (_:Unit)=>K ()
theorem gL (a0:Sl) (a1:Value) {K:kT Unit} {h:Hp} (H:eA a0 a1 K h):cl prog di [(sv a0),a1] R_ K h:=J [] func99 H
def jg (a0:Sl) (K:kT Sl):hT:=br a0.a.isNone ( K (⟨none,0,0,none⟩:Sl)) ( hpv prog (Instr.buildSlice aG 0 #[]) bi fun (v5:Sl)=>hpv prog (Builtin.append_ #[aG,aG] aG #[(sv v5),(sv a0)]) bi fun (v7:Sl)=>K v7)
theorem pV (a0:Sl) {K:kT Sl} {h:Hp} (H:jg a0 K h):cl prog fB [(sv a0)] bi K h:=J [] func158 H
end
section
open Go Mb
abbrev vI (s:Sl) (xs:List Int):As:=vec kv 1 (cI .i64) s xs
def cn (a:Int):List Int->Int->Int
 | [],_=>-1
 | x::xs,i=>if a = x then i else cn a xs (i + 1)
theorem sp_slices_Index (s:Sl) (a:Int) (xs:List Int) (hb:xs.length < 2^62) :
  Sp prog jv [sv s,.int .i64 a] cH [vI s xs] (fun r=>pa_ (r = cn a xs 0) [vI s xs]):=by
 intro h st;refine vg _ _ ?_;unfold ny;refine Lp.intro (fun (i:Int) h=>∃ n:Nat,i = n/\n <= xs.length/\cn a (xs.drop n) n = cn a xs 0/\ah [vI s xs] h) (fun (i:Int) _=>xs.length - i.toNat) ⟨0,rfl,zero_le _,by simp,st⟩ ?_;rintro i h ⟨n,rfl,hn,he,st⟩;have hl:=(aX st (j:=0) rfl).1;unfold nv;refine ar (fun k=>?_) (fun k=>?_)
 ·have hlt:n < xs.length:=by simp [hl] at k; exact k
  refine bE st (j:=0) rfl (by omega) (by omega) fun q hq=>?_;refine bK (j:=0) (i:=n) (k:=0) xs[n] (bd _) st rfl hq (by simp) (al hlt) (by simp) ?_;have hd:xs.drop n = xs[n]::xs.drop (n + 1):=List.drop_eq_getElem_cons hlt;rw [hd] at he;refine ar (fun k2=>?_) (fun k2=>?_)
  ·have k2':a = xs[n]:=by simpa using k2
   rw [cn,if_pos k2'] at he;exact ⟨he,st⟩
  ·have k2':¬ a = xs[n]:=by simpa using k2
   rw [cn,if_neg k2'] at he;have hw:i64.wrap ((n:Int) + 1) = ((n + 1:Nat):Int):=by rw [aE (by omega) (by omega)]; rfl
   rw [hw];exact ⟨⟨n + 1,rfl,hlt,by simpa using he,st⟩,by simp; omega⟩
 ·have:n = xs.length:=by simp [hl] at k; omega
  subst this;simp only [List.drop_length,cn] at he;exact ⟨he,st⟩
def eW (x:Ptr) (p:List Int):As:=fun h=>∃ bs:Nat × Sl,(x = some (bs.1,0)/\p.length <= 16)/\ah [blk bs.1 qF [sv bs.2],vI bs.2 p] h
namespace Pool
def refs (p:List Int) (i:Int):Int:=if i < 0 then 0 else p.getD i.toNat 0
def take (p:List Int):Int × Bool × List Int :=
 if cn 0 p 0 < 0 then (0,false,p) else (cn 0 p 0,true,p.set (cn 0 p 0).toNat 1)
def hold (p:List Int) (i:Int):Bool × List Int :=
 if refs p i = 0\/refs p i >= 7 then (false,p) else (true,p.set i.toNat (i64.wrap (refs p i + 1)))
def lets (p:List Int) (i:Int):Int × Bool × List Int :=
 if refs p i = 0 then (0,false,p) else (i64.wrap (refs p i - 1),true,p.set i.toNat (i64.wrap (refs p i - 1)))
def freeFrom:List Int->Int->List Int
 | [],_=>[]
 | x::xs,i=>if x = 0 then i::freeFrom xs (i + 1) else freeFrom xs (i + 1)
def free (p:List Int):List Int:=freeFrom p 0
end Pool
theorem idx_lt (a:Int):∀ (xs:List Int) (i:Int),cn a xs i = -1\/∃ n:Nat,n < xs.length/\cn a xs i = i + n
 | [],_=>.inl rfl
 | x::xs,i=>by
  unfold cn;split
  ·exact .inr ⟨0,by simp,by simp⟩
  ·rcases idx_lt a xs (i + 1) with h | ⟨n,h1,h2⟩
   ·exact .inl h
   ·exact .inr ⟨n + 1,by simp; omega,by rw [h2]; omega⟩
theorem pool_op {x:Ptr} {p:List Int} {l:List As} {h:Hp} (s0:ah (eW x p::l) h):∃ b s,x = some (b,0)/\p.length <= 16/\s.len = p.length/\ah (blk b qF [sv s]::vI s p::l) h:=by
 obtain ⟨⟨b,s⟩,⟨hx,hb⟩,st⟩:=op_ s0;exact ⟨b,s,hx,hb,(aX (j:=1) st rfl).1,st⟩
theorem sD {b:Nat} {s:Sl} {p:List Int} {l:List As} {h:Hp} (hb:p.length <= 16) (st:ah (blk b qF [sv s]::vI s p::l) h):ah (eW (some (b,0)) p::l) h:=cl_ (b,s) ⟨rfl,hb⟩ st
theorem sp_pool_New (n:Int) (h1:¬ n < 1) (h2:¬ n > 16):Sp prog xW [.int .i64 n] sN [] (fun r=>ah [eW r (replicate n.toNat 0)]):=by
 intro h st;refine sim_pool_New _ ?_;unfold sh_pool_New;obtain ⟨m,rfl⟩:=Int.eq_ofNat_of_zero_le (show 0 <= n by omega);refine bB (by simp; omega) ?_;refine nI (τ:=Int) (x0:=0) (enc:=cI .i64) (n:=m) (T:=kv) (m:=1) jB rfl st ?_ ?_ ?_
 ·omega
 ·omega
 ·intro v h' s1;refine nP s1 fun b h'' s2=>?_;exact sD (by simp; omega) s2
theorem xj (x:Ptr) (p:List Int) (i:Int):Sp prog iJ [pv x,.int .i64 i] cH [eW x p] (fun r=>pa_ (r = Pool.refs p i) [eW x p]):=by
 intro h s0;obtain ⟨b,s,rfl,hb,hl,st⟩:=pool_op s0;refine sim_pool_Pool_Refs _ _ ?_;unfold um;refine ar (fun k=>?_) (fun k=>?_)
 ·have h0:0 <= i:=by simpa using k
  obtain ⟨n,rfl⟩:=Int.eq_ofNat_of_zero_le h0;refine bn ?_;refine aJ s st (i:=0) rfl rfl rfl ?_;refine ar (fun k2=>?_) (fun k2=>?_)
  ·have:p.length <= n:=by rw [hl] at k2; simpa using k2
   exact aw (by simp [Pool.refs,this]) (sD hb st)
  ·have hlt:n < p.length:=by rw [hl] at k2; simpa using k2
   refine aJ s st (i:=0) rfl rfl rfl ?_;refine bE st (j:=1) rfl (by omega) (by omega) fun q hq=>?_;refine bK (j:=1) (i:=n) (k:=0) p[n] (bd _) st rfl hq (by simp) (al hlt) (by simp) ?_;refine aw ?_ (sD hb st);have:¬ ((n:Int) < 0):=by omega
   simp [Pool.refs,hlt,this]
 ·have h0:i < 0:=by simpa using k
  exact aw (by simp [Pool.refs,h0]) (sD hb st)
theorem xi (x:Ptr) (p:List Int):Sp prog iI [pv x] aR [eW x p] (fun r=>pa_ (r = ((Pool.take p).1,(Pool.take p).2.1)) [eW x (Pool.take p).2.2]):=by
 intro h s0;obtain ⟨b,s,rfl,hb,hl,st⟩:=pool_op s0;refine sim_pool_Pool_Take _ ?_;unfold ul;refine bB rfl (bn ?_);refine aJ s st (i:=0) rfl rfl rfl ?_;refine bG [1] (sp_slices_Index s 0 p (by omega)) st rfl fun r h' s1=>?_;obtain ⟨hr,s2⟩:=aM.1 s1;subst hr;refine ar (fun k=>?_) (fun k=>?_)
 ·have k':cn 0 p 0 < 0:=by simpa using k
  have e:Pool.take p = (0,false,p):=if_pos k';rw [e];exact aw rfl (sD hb (aA [1] s2 rfl))
 ·have k':¬ cn 0 p 0 < 0:=by simpa using k
  have e0:Pool.take p = (cn 0 p 0,true,p.set (cn 0 p 0).toNat 1):=if_neg k';rw [e0];rcases idx_lt 0 p 0 with e | ⟨n,h1,e⟩
  ·omega
  ·rw [zero_add] at e;refine aJ s s2 (i:=1) rfl rfl rfl ?_;rw [e];refine bE s2 (j:=0) rfl (by omega) (by omega) fun q hq=>?_;refine tZ (j:=0) (i:=n) (k:=0) (1:Int) (bd _) s2 rfl hq (by simp) (al h1) (by simp) rfl fun h2 s3=>?_;exact aw rfl (sD (by simpa using hb) (aA [1] s3 rfl))
theorem refs_get {p:List Int} {i:Int} (h:Pool.refs p i ≠ 0):∃ n:Nat,i = n/\∃ hn:n < p.length,Pool.refs p i = p[n]:=by
 unfold Pool.refs at h ⊢;by_cases h0:i < 0
 ·rw [if_pos h0] at h; exact absurd rfl h
 ·rw [if_neg h0] at h ⊢;obtain ⟨n,rfl⟩:=Int.eq_ofNat_of_zero_le (show 0 <= i by omega);refine ⟨n,rfl,?_⟩;by_cases hn:n < p.length
  ·exact ⟨hn,by simp [hn]⟩
  ·simp [List.getD_eq_getElem?_getD,List.getElem?_eq_none (Nat.le_of_not_lt hn)] at h
theorem sp_pool_Hold (x:Ptr) (p:List Int) (i:Int):Sp prog lI [pv x,.int .i64 i] ai [eW x p] (fun r=>pa_ (r = (Pool.hold p i).1) [eW x (Pool.hold p i).2]):=by
 intro h s0;refine sim_pool_Pool_Hold _ _ ?_;unfold uo;refine bG [0] (xj x p i) s0 rfl fun r h' s1=>?_;obtain ⟨hr,s2⟩:=aM.1 s1;subst hr;refine ar (fun k=>?_) (fun k=>?_)
 ·have k':Pool.refs p i = 0\/Pool.refs p i >= 7:=by simpa using k
  have e:Pool.hold p i = (false,p):=if_pos k';rw [e];exact aw rfl s2
 ·have k':¬ (Pool.refs p i = 0\/Pool.refs p i >= 7):=by simpa using k
  have e:Pool.hold p i = (true,p.set i.toNat (i64.wrap (Pool.refs p i + 1))):=if_neg k';rw [e];obtain ⟨n,rfl,hn,hg⟩:=refs_get (p:=p) (i:=i) (by omega);obtain ⟨b,s,rfl,hb,hl,st⟩:=pool_op s2;refine bn ?_;refine aJ s st (i:=0) rfl rfl rfl ?_;refine bE st (j:=1) rfl (by omega) (by omega) fun q hq=>?_;refine bK (j:=1) (i:=n) (k:=0) p[n] (bd _) st rfl hq (by simp) (al hn) (by simp) ?_;refine tZ (j:=1) (i:=n) (k:=0) (i64.wrap (p[n] + 1)) (bd _) st rfl hq (by simp) (al hn) (by simp) rfl fun h2 s3=>?_;rw [hg];exact aw rfl (sD (by simpa using hb) s3)
theorem sp_pool_Let (x:Ptr) (p:List Int) (i:Int):Sp prog mP [pv x,.int .i64 i] aR [eW x p] (fun r=>pa_ (r = ((Pool.lets p i).1,(Pool.lets p i).2.1)) [eW x (Pool.lets p i).2.2]):=by
 intro h s0;refine sim_pool_Pool_Let _ _ ?_;unfold wt;refine bG [0] (xj x p i) s0 rfl fun r h' s1=>?_;obtain ⟨hr,s2⟩:=aM.1 s1;subst hr;refine ar (fun k=>?_) (fun k=>?_)
 ·have k':Pool.refs p i = 0:=by simpa using k
  have e:Pool.lets p i = (0,false,p):=if_pos k';rw [e];exact aw rfl s2
 ·have k':¬ (Pool.refs p i = 0):=by simpa using k
  have e:Pool.lets p i = (i64.wrap (Pool.refs p i - 1),true,p.set i.toNat (i64.wrap (Pool.refs p i - 1))):=if_neg k';rw [e];obtain ⟨n,rfl,hn,hg⟩:=refs_get (p:=p) (i:=i) k';obtain ⟨b,s,rfl,hb,hl,st⟩:=pool_op s2;refine bn ?_;refine aJ s st (i:=0) rfl rfl rfl ?_;refine bE st (j:=1) rfl (by omega) (by omega) fun q hq=>?_;refine bK (j:=1) (i:=n) (k:=0) p[n] (bd _) st rfl hq (by simp) (al hn) (by simp) ?_;refine tZ (j:=1) (i:=n) (k:=0) (i64.wrap (p[n] - 1)) (bd _) st rfl hq (by simp) (al hn) (by simp) rfl fun h2 s3=>?_;refine aJ s s3 (i:=0) rfl rfl rfl ?_;refine bE s3 (j:=1) rfl (by omega) (by simp; omega) fun q2 hq2=>?_;refine bK (j:=1) (i:=n) (k:=0) (i64.wrap (p[n] - 1)) (bd _) s3 rfl hq2 (by simp) (x:=i64.wrap (p[n] - 1)) (by simp [hn]) (by simp) ?_;rw [hg];exact aw rfl (sD (by simpa using hb) s3)
theorem free_append:∀ (xs:List Int) (i:Int) (x:Int),Pool.freeFrom (xs++[x]) i = Pool.freeFrom xs i++(if x = 0 then [i + xs.length] else [])
 | [],i,x=>by simp only [List.nil_append,Pool.freeFrom]; split <;> simp
 | y::xs,i,x=>by
  simp only [cons_append,Pool.freeFrom];rw [free_append xs (i + 1) x];have e:i + 1 + (xs.length:Int) = i + ((y::xs).length:Int):=by simp; omega
  rw [e];split <;> simp
theorem free_len:∀ (xs:List Int) (i:Int),(Pool.freeFrom xs i).length <= xs.length
 | [],_=>Nat.le_refl _
 | x::xs,i=>by unfold Pool.freeFrom; have:=free_len xs (i + 1); split <;> simp <;> omega
theorem sW {l:List As} {h:Hp} {i:Nat} {s:Sl} {xs:List Int} {x:Int} {K:Sl->Hp->Prop} (st:ah l h) (hi:l[i]? = some (vI s xs)) (hb:xs.length < 2 ^ 40)
  (k:∀ v h',ah (l.set i (vI v (xs++[x]))) h'->K v h'):hpv prog (Instr.buildSlice aj 1 #[(0,.int .i64 x)]) av (fun y=>hpv prog (Builtin.append_ #[aj,aj] aj #[sv s,sv y]) av K) h:=by
 refine db (τ:=Int) [x] (val:=fun x=>.int .i64 x) (enc:=cI .i64) jB (bd _) (fun _=>rfl) st rfl rfl (by simp) fun y h' s1=>?_;have hlt:=(List.getElem?_eq_some_iff.1 hi).1;refine ru (τ:=Int) (i:=i + 1) (j:=0) (enc:=cI .i64) (ys:=[x]) jB jB.sl (bd _) (oneI _) s1 (by simpa using hi) rfl (by omega) (by simp; omega) (by simp; omega) fun v h2 s2=>?_;exact k v h2 (aT (l:=[vI y [x]]) (by simpa using s2))
theorem sp_pool_Free (x:Ptr) (p:List Int):Sp prog lJ [pv x] av [eW x p] (fun r=>ah [vI r (Pool.free p),eW x p]):=by
 intro h s0;obtain ⟨b,s,rfl,hb,hl,st⟩:=pool_op s0;refine sim_pool_Pool_Free _ ?_;unfold uq;refine bB rfl (bn ?_);refine aJ s st (i:=0) rfl rfl rfl ?_;refine Lp.intro (fun (z:Sl × Int) h=>∃ n:Nat,z.2 = n/\n <= p.length/\ah [vI z.1 (Pool.freeFrom (p.take n) 0),blk b qF [sv s],vI s p] h) (fun (z:Sl × Int) _=>p.length - z.2.toNat) ⟨0,rfl,zero_le _,dp st⟩ ?_;rintro ⟨z,i⟩ h ⟨n,rfl,hn,s1⟩;unfold uI;refine ar (fun k=>?_) (fun k=>?_)
 ·have hlt:n < p.length:=by rw [hl] at k; simpa using k
  have hw:i64.wrap ((n:Int) + 1) = ((n + 1:Nat):Int):=by rw [aE (by omega) (by omega)]; rfl
  have ht:p.take (n + 1) = p.take n++[p[n]]:=by simp
  have hlen:((p.take n).length:Int) = n:=by simp; omega
  refine bE s1 (j:=2) rfl (by omega) (by show (n:Int) < _; omega) fun q hq=>?_;refine bK (j:=2) (i:=n) (k:=0) p[n] (bd _) s1 rfl hq (by simp) (al hlt) (by simp) ?_;refine ar (fun k2=>?_) (fun k2=>?_)
  ·have k2':p[n] = 0:=by simpa using k2
   refine sW s1 (i:=0) rfl ?_ fun v h' s2=>?_
   ·have:=free_len (p.take n) 0; simp at this ⊢; omega
   ·rw [hw];refine ⟨⟨n + 1,rfl,hlt,?_⟩,by simp; omega⟩;rw [ht,free_append,if_pos k2',hlen,zero_add];exact s2
  ·have k2':¬ p[n] = 0:=by simpa using k2
   rw [hw];refine ⟨⟨n + 1,rfl,hlt,?_⟩,by simp; omega⟩;rw [ht,free_append,if_neg k2',append_nil];exact s1
 ·have:n = p.length:=by rw [hl] at k; simp at k; omega
  subst this;rw [take_length] at s1;exact jY (.cons _ (.refl _)) (aA (l:=[vI z (Pool.freeFrom p 0),eW (some (b,0)) p]) [0] (by
   have:=aA [1,1] s1 rfl;exact aA [1] (sD hb this) rfl) rfl)
def Pool.bitsOf (w:Int):List Int->Int
 | []=>w
 | i::l=>Pool.bitsOf (ior .u64 w (u64.wrap (1 * 2 ^ (min (Int.toNat i) (IntKind.bits .u64))))) l
def Pool.bits (p:List Int):Int:=Pool.bitsOf 0 (Pool.free p)
theorem free_ge:∀ (xs:List Int) (i:Int),0 <= i->∀ j ∈ Pool.freeFrom xs i,0 <= j
 | [],_,_,_,h=>by cases h
 | x::xs,i,hi,j,h=>by
  unfold Pool.freeFrom at h;split at h
  ·rcases List.mem_cons.1 h with rfl | h
   ·exact hi
   ·exact free_ge xs (i + 1) (by omega) j h
  ·exact free_ge xs (i + 1) (by omega) j h
theorem bits_append (a:Int):∀ (l:List Int) (w:Int),Pool.bitsOf w (l++[a]) = ior .u64 (Pool.bitsOf w l) (u64.wrap (1 * 2 ^ (min (Int.toNat a) (IntKind.bits .u64))))
 | [],_=>rfl
 | _::l,w=>by simp only [cons_append,Pool.bitsOf]; exact bits_append a l _
theorem sp_pool_Bits (x:Ptr) (p:List Int):Sp prog qd [pv x] eE [eW x p] (fun r=>pa_ (r = Pool.bits p) [eW x p]):=by
 intro h s0;have hp16:p.length <= 16:=by obtain ⟨_,_,_,hb,_⟩:=pool_op s0; exact hb
 refine sim_pool_Pool_Bits _ ?_;unfold ur;refine bG [0] (sp_pool_Free x p) s0 rfl fun r h1 s1=>?_;have s2:=bT s1;have hl:=(aX (j:=0) s2 rfl).1;have hfl:=free_len p 0;refine Lp.intro (fun (z:Int × Int) h=>∃ n:Nat,z.2 = n/\n <= (Pool.free p).length/\z.1 = Pool.bitsOf 0 ((Pool.free p).take n)/\ah [vI r (Pool.free p),eW x p] h) (fun (z:Int × Int) _=>(Pool.free p).length - z.2.toNat) ⟨0,rfl,zero_le _,rfl,s2⟩ ?_;rintro ⟨w,i⟩ h ⟨n,rfl,hn,rfl,s3⟩;unfold uJ;refine ar (fun k=>?_) (fun k=>?_)
 ·have hlt:n < (Pool.free p).length:=by rw [hl] at k; simpa using k
  have hw:i64.wrap ((n:Int) + 1) = ((n + 1:Nat):Int):=by
   have:(Pool.free p).length <= 16:=by unfold Pool.free; omega
   rw [aE (by omega) (by omega)]; rfl
  refine bE s3 (j:=0) rfl (by omega) (by show (n:Int) < _; omega) fun q hq=>?_;refine bK (j:=0) (i:=n) (k:=0) (Pool.free p)[n] (bd _) s3 rfl hq (by simp) (al hlt) (by simp) ?_;refine ⟨free_ge p 0 (Int.le_refl _) _ (List.getElem_mem hlt),?_⟩;rw [hw];refine ⟨⟨n + 1,rfl,hlt,?_,s3⟩,by simp; omega⟩;have ht:(Pool.free p).take (n + 1) = (Pool.free p).take n++[(Pool.free p)[n]]:=by simp
  rw [ht,bits_append]
 ·have:n = (Pool.free p).length:=by rw [hl] at k; simp at k; omega
  subst this;refine aw ?_ (aT (l:=[vI r (Pool.free p)]) s3);rw [take_length]; rfl
end
section
open Go Mb
attribute [local irreducible] bM gR il Val Tx Tu Tn RV Res br nn ix gd ld st nw cl clv dL Lp ct
def sh_table_New (K:kT Ptr):hT:=hpv prog (Instr.build jX #[]) encL fun (v1:(List Value))=>nw jX v1 fun b2=>K (some (b2,0))
theorem sim_table_New {K:kT Ptr} {h:Hp} (H:sh_table_New K h):cl prog kU [] gF K h:=J [] func106 H
def gY (a0:Ptr) (a1:Int) (K:kT (ak × Bool)) (s1:Bool):hT:=br s1 ( K ((⟨0,0,0⟩:ak),false)) ( nn a0 fun q26=>gd (0 <= a1/\a1 < 8)<|ld (q26.1,q26.2 + 0 + Int.toNat a1 * 3) ak.C fun x29=>K (x29,true))
def uk (a0:Ptr) (a1:Int) (K:kT (ak × Bool)):hT:=ct (gY a0 a1 K)<|br (!(a0.isNone || (!(aK a1)))) ( nn a0 fun q16=>gd (0 <= a1/\a1 < 8)<|ld (q16.1,q16.2 + 0 + Int.toNat a1 * 3 + 2) (cI .i64) fun x20=>gY a0 a1 K (x20 == 0)) ( gY a0 a1 K true)
theorem sim_table_Table_At (a0:Ptr) (a1:Int) {K:kT (ak × Bool)} {h:Hp} (H:uk a0 a1 K h):cl prog dR [(pv a0),(.int .i64 a1)] bA K h:=have z0:LH (σ:=Bool) 102002 1 (fun s1 r=>(22,(.bool s1))::r) [22] [0,1,4] (fun _ l=>l):=⟨⟩; J [2002] func112 H
def pb (a0:Ptr) (a1:Int) (a2:ak) (K:kT Int):hT:=br a0.isNone ( K 10) ( br (((!(cK a2).2) || (a2.fCa == 0)) || (!(aK a1))) ( K 2) ( nn a0 fun q30=>gd (0 <= a1/\a1 < 8)<|ld (q30.1,q30.2 + 0 + Int.toNat a1 * 3 + 2) (cI .i64) fun x34=>br (x34 != 0) ( K 4) ( st (q30.1,q30.2 + 0 + Int.toNat a1 * 3) (ak.C a2)<|K 0)))
theorem xn (a0:Ptr) (a1:Int) (a2:ak) {K:kT Int} {h:Hp} (H:pb a0 a1 a2 K h):cl prog dl [(pv a0),(.int .i64 a1),(.agg (ak.C a2).toArray)] aC K h:=have z0:OH 8 [0,4,8,12,16,20,26] .e []:=⟨⟩; J [] func119 H
def oZ (a0:Ptr) (a1:Int) (K:kT (ak × Int)):hT:=br a0.isNone ( K ((⟨0,0,0⟩:ak),10)) ( br (!(aK a1)) ( K ((⟨0,0,0⟩:ak),2)) ( nn a0 fun q19=>gd (0 <= a1/\a1 < 8)<|ld (q19.1,q19.2 + 0 + Int.toNat a1 * 3 + 2) (cI .i64) fun x23=>br (x23 == 0) ( K ((⟨0,0,0⟩:ak),3)) ( ld (q19.1,q19.2 + 0 + Int.toNat a1 * 3) ak.C fun x31=>st (q19.1,q19.2 + 0 + Int.toNat a1 * 3) (ak.C (⟨0,0,0⟩:ak))<|K (x31,0))))
theorem xm (a0:Ptr) (a1:Int) {K:kT (ak × Int)} {h:Hp} (H:oZ a0 a1 K h):cl prog hO [(pv a0),(.int .i64 a1)] iC K h:=J [] func134 H
def ug (a1:Int) (K:kT Sl) (v13:(List Value)) (Rec8:kT (Sl × Int)) (s7:Sl × Int):hT:=br (decide (s7.2 < 8)) ( hpv prog (Instr.index uh (.agg v13.toArray) (.int .i64 s7.2)) wY fun (v17:ak)=>br ((v17.fCa != 0) && (v17.fDa == a1)) ( hpv prog (Instr.buildSlice aj 1 #[(0,(.int .i64 s7.2))]) av fun (v29:Sl)=>hpv prog (Builtin.append_ #[aj,aj] aj #[(sv s7.1),(sv v29)]) av fun (v30:Sl)=>Rec8 (v30,(i64.wrap (s7.2 + 1)))) ( Rec8 (s7.1,(i64.wrap (s7.2 + 1))))) ( K s7.1)
def uj (a0:Ptr) (a1:Int) (K:kT Sl):hT:=br a0.isNone ( K (⟨none,0,0,none⟩:Sl)) ( nn a0 fun q11=>hpv prog (Instr.loadAt uh (.pointer (some ⟨q11.1,q11.2 + 0,none⟩))) encL fun (v13:(List Value))=>Lp (ug a1 K v13) ((⟨none,0,0,none⟩:Sl),0))
theorem sim_table_Table_By (a0:Ptr) (a1:Int) {K:kT Sl} {h:Hp} (H:uj a0 a1 K h):cl prog lH [(pv a0),(.int .i64 a1)] av K h:=have z0:LH (σ:=Sl × Int) 5 0 (fun s7 r=>(5,(sv s7.1))::(14,(.int .i64 s7.2))::r) [5,14] [1,13] (fun _ l=>l):=⟨⟩; J [] func180 H
def nW (a0:Ptr) (a1:Int) (a2:Int) (K:kT Int):hT:=br a0.isNone ( K 10) ( br ((!(aK a1)) || (!(aS a2))) ( K 2) ( nn a0 fun q22=>gd (0 <= a1/\a1 < 8)<|ld (q22.1,q22.2 + 0 + Int.toNat a1 * 3 + 2) (cI .i64) fun x26=>br (x26 == 0) ( K 3) ( st (q22.1,q22.2 + 0 + Int.toNat a1 * 3 + 2) [.int .i64 a2]<|K 0)))
theorem vY (a0:Ptr) (a1:Int) (a2:Int) {K:kT Int} {h:Hp} (H:nW a0 a1 a2 K h):cl prog kh [(pv a0),(.int .i64 a1),(.int .i64 a2)] aC K h:=J [] func182 H
end
section
open Go Mb
abbrev Pte:=ak
theorem iA (p:Pte):p.C.length = 3:=rfl
abbrev cc:Pte:=⟨0,0,0⟩
def bV (x:Ptr) (ps:List Pte):As:=fun h=>∃ b:Nat,(x = some (b,0)/\ps.length = 8)/\ah [blk b jX ([]++(ps.flatMap ak.C++[]))] h
theorem table_op {x:Ptr} {ps:List Pte} {l:List As} {h:Hp} (s0:ah (bV x ps::l) h):∃ b,x = some (b,0)/\ps.length = 8/\ah (blk b jX ([]++(ps.flatMap ak.C++[]))::l) h:=by
 obtain ⟨b,⟨hx,hb⟩,st⟩:=op_ s0;exact ⟨b,hx,hb,st⟩
theorem gX {b:Nat} {ps:List Pte} {l:List As} {h:Hp} (hb:ps.length = 8) (st:ah (blk b jX ([]++(ps.flatMap ak.C++[]))::l) h):ah (bV (some (b,0)) ps::l) h:=cl_ b ⟨rfl,hb⟩ st
namespace Table
def at_ (ps:List Pte) (i:Int):Pte:=ps.getD i.toNat cc
def get (ps:List Pte) (i:Int):Pte × Bool:=if aK i = true/\(at_ ps i).fCa ≠ 0 then (at_ ps i,true) else (cc,false)
def insert (ps:List Pte) (i:Int) (p:Pte):Int × List Pte :=
 if (cK p).2 = false\/p.fCa = 0\/aK i = false then (2,ps) else if (at_ ps i).fCa ≠ 0 then (4,ps) else (0,ps.set i.toNat p)
def protect (ps:List Pte) (i r:Int):Int × List Pte :=
 if aK i = false\/aS r = false then (2,ps) else if (at_ ps i).fCa = 0 then (3,ps) else (0,ps.set i.toNat { at_ ps i with fCa:=r })
def remove (ps:List Pte) (i:Int):(Pte × Int) × List Pte :=
 if aK i = false then ((cc,2),ps) else if (at_ ps i).fCa = 0 then ((cc,3),ps) else ((at_ ps i,0),ps.set i.toNat cc)
def byFrom (s:Int):List Pte->Int->List Int
 | [],_=>[]
 | p::ps,i=>if p.fCa ≠ 0/\p.fDa = s then i::byFrom s ps (i + 1) else byFrom s ps (i + 1)
def by_ (ps:List Pte) (s:Int):List Int:=byFrom s ps 0
end Table
theorem kJ {i:Int} (h:aK i = true):∃ n:Nat,i = n/\n < 8:=by
 unfold aK at h;simp at h;exact ⟨i.toNat,by omega,by omega⟩
theorem table_new_run (K:Value->Hp->Prop) (h:Hp):hp prog (Instr.build jX #[]) K h = K (.agg ((replicate 8 cc).flatMap ak.C).toArray) h:=by kernel_rfl
theorem nT:Sp prog kU [] gF [] (fun r=>ah [bV r (replicate 8 cc)]):=by
 intro h st;refine sim_table_New ?_;unfold sh_table_New;refine ⟨?_⟩;rw [table_new_run];refine ⟨_,rfl,?_⟩;refine nP st fun b h' s1=>?_;exact gX rfl s1
theorem jF (x:Ptr) (ps:List Pte) (i:Int) (p:Pte):Sp prog dl [pv x,.int .i64 i,.agg p.C.toArray] aC [bV x ps] (fun r=>pa_ (r = (Table.insert ps i p).1) [bV x (Table.insert ps i p).2]):=by
 intro h s0;obtain ⟨b,rfl,hb,st⟩:=table_op s0;refine xn _ _ _ ?_;unfold pb;refine bB rfl ?_;refine ar (fun k=>?_) (fun k=>?_)
 ·have k':(cK p).2 = false\/p.fCa = 0\/aK i = false:=by simpa [or_assoc] using k
  have e:Table.insert ps i p = (2,ps):=if_pos k';rw [e];exact aw rfl (gX hb st)
 ·have k':¬ ((cK p).2 = false\/p.fCa = 0\/aK i = false):=by simp at k; simp [k]
  obtain ⟨n,rfl,hn⟩:=kJ (i:=i) (by simp at k'; exact k'.2.2);have hn':n < ps.length:=by omega
  have hat:Table.at_ ps n = ps[n]:=by simp [Table.at_,hn']
  refine bn ⟨⟨by omega,by omega⟩,?_⟩;refine ld_a (j:=0) (i:=n) (k:=2) ps[n].fCa iA st rfl (by simp) (al hn') (c1 rfl rfl) ?_;refine ar (fun k2=>?_) (fun k2=>?_)
  ·have k2':(Table.at_ ps n).fCa ≠ 0:=by rw [hat]; simpa using k2
   have e:Table.insert ps n p = (4,ps):=by unfold Table.insert; rw [if_neg k',if_pos k2']
   rw [e];exact aw rfl (gX hb st)
  ·have k2':¬ (Table.at_ ps n).fCa ≠ 0:=by rw [hat]; simpa using k2
   have e:Table.insert ps n p = (0,ps.set n p):=by unfold Table.insert; rw [if_neg k',if_neg k2']; rfl
   rw [e];refine st_a (j:=0) (i:=n) (k:=0) p iA st rfl (by simp) (al hn') (by simp [iA]) rfl fun h2 s2=>?_;exact aw rfl (gX (by simpa using hb) s2)
theorem sp_table_Protect (x:Ptr) (ps:List Pte) (i r:Int):Sp prog kh [pv x,.int .i64 i,.int .i64 r] aC [bV x ps] (fun v=>pa_ (v = (Table.protect ps i r).1) [bV x (Table.protect ps i r).2]):=by
 intro h s0;obtain ⟨b,rfl,hb,st⟩:=table_op s0;refine vY _ _ _ ?_;unfold nW;refine bB rfl ?_;refine ar (fun k=>?_) (fun k=>?_)
 ·have k':aK i = false\/aS r = false:=by simpa using k
  have e:Table.protect ps i r = (2,ps):=if_pos k';rw [e];exact aw rfl (gX hb st)
 ·have k':¬ (aK i = false\/aS r = false):=by simp at k; simp [k]
  obtain ⟨n,rfl,hn⟩:=kJ (i:=i) (by simp at k'; exact k'.1);have hn':n < ps.length:=by omega
  have hat:Table.at_ ps n = ps[n]:=by simp [Table.at_,hn']
  refine bn ⟨⟨by omega,by omega⟩,?_⟩;refine ld_a (j:=0) (i:=n) (k:=2) ps[n].fCa iA st rfl (by simp) (al hn') (c1 rfl rfl) ?_;refine ar (fun k2=>?_) (fun k2=>?_)
  ·have k2':(Table.at_ ps n).fCa = 0:=by rw [hat]; simpa using k2
   have e:Table.protect ps n r = (3,ps):=by unfold Table.protect; rw [if_neg k',if_pos k2']
   rw [e];exact aw rfl (gX hb st)
  ·have k2':¬ (Table.at_ ps n).fCa = 0:=by rw [hat]; simpa using k2
   have e:Table.protect ps n r = (0,ps.set n { ps[n] with fCa:=r }):=by unfold Table.protect; rw [if_neg k',if_neg k2',hat]; rfl
   rw [e];refine st_a (j:=0) (i:=n) (k:=2) { ps[n] with fCa:=r } iA st rfl (by simp) (al hn') (by simp) rfl fun h2 s2=>?_;exact aw rfl (gX (by simpa using hb) s2)
theorem sp_table_Remove (x:Ptr) (ps:List Pte) (i:Int):Sp prog hO [pv x,.int .i64 i] iC [bV x ps] (fun v=>pa_ (v = (Table.remove ps i).1) [bV x (Table.remove ps i).2]):=by
 intro h s0;obtain ⟨b,rfl,hb,st⟩:=table_op s0;refine xm _ _ ?_;unfold oZ;refine bB rfl ?_;refine ar (fun k=>?_) (fun k=>?_)
 ·have k':aK i = false:=by simpa using k
  have e:Table.remove ps i = ((cc,2),ps):=if_pos k';rw [e];exact aw rfl (gX hb st)
 ·have k':¬ (aK i = false):=by simp at k; simp [k]
  obtain ⟨n,rfl,hn⟩:=kJ (i:=i) (by simp at k'; exact k');have hn':n < ps.length:=by omega
  have hat:Table.at_ ps n = ps[n]:=by simp [Table.at_,hn']
  refine bn ⟨⟨by omega,by omega⟩,?_⟩;refine ld_a (j:=0) (i:=n) (k:=2) ps[n].fCa iA st rfl (by simp) (al hn') (c1 rfl rfl) ?_;refine ar (fun k2=>?_) (fun k2=>?_)
  ·have k2':(Table.at_ ps n).fCa = 0:=by rw [hat]; simpa using k2
   have e:Table.remove ps n = ((cc,3),ps):=by unfold Table.remove; rw [if_neg k',if_pos k2']
   rw [e];exact aw rfl (gX hb st)
  ·have k2':¬ (Table.at_ ps n).fCa = 0:=by rw [hat]; simpa using k2
   have e:Table.remove ps n = ((ps[n],0),ps.set n cc):=by unfold Table.remove; rw [if_neg k',if_neg k2',hat]; rfl
   rw [e];refine ld_a (j:=0) (i:=n) (k:=0) ps[n] iA st rfl (by simp) (al hn') (by simp) ?_;refine st_a (j:=0) (i:=n) (k:=0) cc iA st rfl (by simp) (al hn') (by simp [iA]) rfl fun h2 s2=>?_;exact aw rfl (gX (by simpa using hb) s2)
theorem nu (x:Ptr) (ps:List Pte) (i:Int):Sp prog dR [pv x,.int .i64 i] bA [bV x ps] (fun v=>pa_ (v = Table.get ps i) [bV x ps]):=by
 intro h s0;obtain ⟨b,rfl,hb,st⟩:=table_op s0;refine sim_table_Table_At _ _ ?_;unfold uk;refine ar (fun k=>?_) (fun k=>?_)
 ·have k':aK i = true:=by simpa using k
  obtain ⟨n,rfl,hn⟩:=kJ k';have hn':n < ps.length:=by omega
  have hat:Table.at_ ps n = ps[n]:=by simp [Table.at_,hn']
  refine bn ⟨⟨by omega,by omega⟩,?_⟩;refine ld_a (j:=0) (i:=n) (k:=2) ps[n].fCa iA st rfl (by simp) (al hn') (c1 rfl rfl) ?_;unfold gY;refine ar (fun k2=>?_) (fun k2=>?_)
  ·have k2':(Table.at_ ps n).fCa = 0:=by rw [hat]; simpa using k2
   have e:Table.get ps n = (cc,false):=if_neg (fun hh=>hh.2 k2');rw [e];exact aw rfl (gX hb st)
  ·have k2':¬ (Table.at_ ps n).fCa = 0:=by rw [hat]; simpa using k2
   have e:Table.get ps n = (ps[n],true):=by unfold Table.get; rw [if_pos ⟨k',k2'⟩,hat]
   rw [e];refine bn ⟨⟨by omega,by omega⟩,?_⟩;refine ld_a (j:=0) (i:=n) (k:=0) ps[n] iA st rfl (by simp) (al hn') (by simp) ?_;exact aw rfl (gX hb st)
 ·have k':¬ aK i = true:=by simpa using k
  have e:Table.get ps i = (cc,false):=if_neg (fun hh=>k' hh.1);rw [e];unfold gY;exact cg rfl (aw rfl (gX hb st))
theorem by_append (s:Int):∀ (ps:List Pte) (i:Int) (p:Pte),Table.byFrom s (ps++[p]) i = Table.byFrom s ps i++(if p.fCa ≠ 0/\p.fDa = s then [i + ps.length] else [])
 | [],i,p=>by simp only [List.nil_append,Table.byFrom]; split <;> simp
 | y::ps,i,p=>by
  simp only [cons_append,Table.byFrom];rw [by_append s ps (i + 1) p];have e:i + 1 + (ps.length:Int) = i + ((y::ps).length:Int):=by simp; omega
  rw [e];split <;> simp
theorem by_len (s:Int):∀ (ps:List Pte) (i:Int),(Table.byFrom s ps i).length <= ps.length
 | [],_=>Nat.le_refl _
 | p::ps,i=>by unfold Table.byFrom; have:=by_len s ps (i + 1); split <;> simp <;> omega
theorem sp_table_By (x:Ptr) (ps:List Pte) (s:Int):Sp prog lH [pv x,.int .i64 s] av [bV x ps] (fun r=>ah [vI r (Table.by_ ps s),bV x ps]):=by
 intro h s0;obtain ⟨b,rfl,hb,st⟩:=table_op s0;refine sim_table_Table_By _ _ ?_;unfold uj;refine bB rfl (bn ?_);obtain ⟨h1,a,sub⟩:=cL (i:=0) rfl st;have hfl:(ps.flatMap ak.C).length = 24:=by rw [bR iA,hb]
 refine loadAt_v (r:=ps.flatMap ak.C) (cs:=ps.flatMap ak.C) agn_8_api_Pte ⟨_,_,_,sub _ _ a,fun i v hv=>by simpa using hv⟩ hfl rfl ?_;refine Lp.intro (fun (z:Sl × Int) h=>∃ n:Nat,z.2 = n/\n <= 8/\ah [vI z.1 (Table.byFrom s (ps.take n) 0),bV (some (b,0)) ps] h) (fun (z:Sl × Int) _=>8 - z.2.toNat) ⟨0,rfl,zero_le _,dp (gX hb st)⟩ ?_;rintro ⟨z,i⟩ h ⟨n,rfl,hn,s1⟩;unfold ug;refine ar (fun k=>?_) (fun k=>?_)
 ·have hlt:n < 8:=by have:=of_decide_eq_true k; omega
  have hn':n < ps.length:=by omega
  have hw:i64.wrap ((n:Int) + 1) = ((n + 1:Nat):Int):=by rw [aE (by omega) (by omega)]; rfl
  have ht:ps.take (n + 1) = ps.take n++[ps[n]]:=by simp
  have hlen:((ps.take n).length:Int) = n:=by simp; omega
  refine index_v (enc:=ak.C) (m:=3) arn_8_api_Pte age_8_api_Pte iA (fun _=>rfl) hb (al hn') ?_;refine ar (fun k2=>?_) (fun k2=>?_)
  ·have k2':ps[n].fCa ≠ 0/\ps[n].fDa = s:=by simpa using k2
   refine sW s1 (i:=0) rfl ?_ fun v h' s2=>?_
   ·have:=by_len s (ps.take n) 0; simp at this ⊢; omega
   ·rw [hw];refine ⟨⟨n + 1,rfl,hlt,?_⟩,by simp; omega⟩;rw [ht,by_append,if_pos k2',hlen,zero_add];exact s2
  ·have k2':¬ (ps[n].fCa ≠ 0/\ps[n].fDa = s):=by simpa using k2
   rw [hw];refine ⟨⟨n + 1,rfl,hlt,?_⟩,by simp; omega⟩;rw [ht,by_append,if_neg k2',append_nil];exact s1
 ·have:n = 8:=by have:=of_decide_eq_false k; omega
  subst this;rw [show ps.take 8 = ps from by rw [← hb]; exact take_length] at s1;exact s1
end
section
open Go
namespace Mb
def wJ {σ α:Type} (A:σ->α->As):List σ->List α->List As
 | p::ps,x::xs=>A p x::wJ A ps xs
 | _,_=>[]
section
variable {σ α:Type} {A:σ->α->As}
theorem objs_get:∀ {ps:List σ} {xs:List α} {i:Nat} {p:σ} {x:α},ps[i]? = some p->xs[i]? = some x->(wJ A ps xs)[i]? = some (A p x)
 | [],_,_,_,_,h,_=>by simp at h
 | _::_,[],_,_,_,_,h=>by simp at h
 | p::ps,x::xs,0,_,_,h1,h2=>by simp at h1 h2; subst h1; subst h2; rfl
 | p::ps,x::xs,i + 1,_,_,h1,h2=>by simpa [wJ] using objs_get (ps:=ps) (xs:=xs) (i:=i) (by simpa using h1) (by simpa using h2)
theorem objs_set:∀ {ps:List σ} {xs:List α} {i:Nat} {p:σ} {x:α},ps[i]? = some p->(wJ A ps xs).set i (A p x) = wJ A ps (xs.set i x)
 | [],_,_,_,_,h=>by simp at h
 | p::ps,[],i,_,_,_=>by simp [wJ]
 | p::ps,y::xs,0,_,_,h=>by simp at h; subst h; rfl
 | p::ps,y::xs,i + 1,_,_,h=>by simp only [wJ,List.set_cons_succ]; rw [objs_set (ps:=ps) (xs:=xs) (i:=i) (by simpa using h)]
theorem objs_set2:∀ {ps:List σ} {xs:List α} {i:Nat} {p:σ} {x:α},i < xs.length->(wJ A ps xs).set i (A p x) = wJ A (ps.set i p) (xs.set i x)
 | [],_,_,_,_,_=>by simp [wJ]
 | p::ps,[],i,_,_,h=>by simp at h
 | p::ps,y::xs,0,_,_,_=>rfl
 | p::ps,y::xs,i + 1,_,_,h=>by simp only [wJ,List.set_cons_succ]; rw [objs_set2 (ps:=ps) (xs:=xs) (i:=i) (by simpa using h)]
theorem objs_append (p:σ) (x:α):∀ {ps:List σ} {xs:List α},ps.length = xs.length->wJ A (ps++[p]) (xs++[x]) = wJ A ps xs++[A p x]
 | [],[],_=>rfl
 | [],_::_,h=>by simp at h
 | _::_,[],h=>by simp at h
 | a::ps,b::xs,h=>by simp only [cons_append,wJ]; rw [objs_append p x (by simpa using h)]
theorem objs_len:∀ {ps:List σ} {xs:List α},ps.length = xs.length->(wJ A ps xs).length = xs.length
 | [],[],_=>rfl
 | [],_::_,h=>by simp at h
 | _::_,[],h=>by simp at h
 | a::ps,b::xs,h=>by simp only [wJ,List.length_cons]; rw [objs_len (by simpa using h)]
def all (A:σ->α->As) (ps:List σ) (xs:List α):As:=ah (wJ A ps xs)
def but (A:σ->α->As) (ps:List σ) (xs:List α) (i:Nat):As:=ah ((wJ A ps xs).eraseIdx i)
variable {l:List As} {h:Hp} {ps:List σ} {xs:List α}
theorem star_shut {m:List As} (s:ah (m++l) h):ah (ah m::l) h:=by
 obtain ⟨h1,h2,d,e,s1,s2⟩:=dP.1 s;exact ⟨h1,h2,d,e,s1,s2⟩
theorem gJ {i:Nat} {p:σ} {x:α} (hp:ps[i]? = some p) (hx:xs[i]? = some x) (s:ah (all A ps xs::l) h):ah (A p x::but A ps xs i::l) h:=by
 obtain ⟨h1,h2,d,e,a,s'⟩:=s;have:=eu (objs_get (A:=A) hp hx) a;obtain ⟨h3,h4,d',e',a',s4⟩:=this;subst e';obtain ⟨d1,d2⟩:=Dj.of_un_left d;exact ⟨h3,un h4 h2,Dj.un_right d' d1,by rw [e,mC],a',h4,h2,d2,rfl,s4,s'⟩
theorem vF {i:Nat} {p:σ} {y:α} (hp:ps[i]? = some p) (hi:i < xs.length) (hl:ps.length = xs.length) (s:ah (A p y::but A ps xs i::l) h):ah (all A ps (xs.set i y)::l) h:=by
 obtain ⟨h1,h2,d,e,a,h3,h4,d',e',b,s'⟩:=s;subst e';obtain ⟨d1,d2⟩:=Dj.of_un_right d;refine ⟨un h1 h3,h4,Dj.un_left d2 d',by rw [e,mC],?_,s'⟩;have:=cO (A:=A p y) (l:=wJ A ps xs) (i:=i) (by rw [objs_len hl]; exact hi) ⟨h1,h3,d1,rfl,a,b⟩;rw [objs_set hp] at this;exact this
theorem all_in2 {i:Nat} {p:σ} {y:α} (hi:i < xs.length) (hl:ps.length = xs.length) (s:ah (A p y::but A ps xs i::l) h):ah (all A (ps.set i p) (xs.set i y)::l) h:=by
 obtain ⟨h1,h2,d,e,a,h3,h4,d',e',b,s'⟩:=s;subst e';obtain ⟨d1,d2⟩:=Dj.of_un_right d;refine ⟨un h1 h3,h4,Dj.un_left d2 d',by rw [e,mC],?_,s'⟩;have:=cO (A:=A p y) (l:=wJ A ps xs) (i:=i) (by rw [objs_len hl]; exact hi) ⟨h1,h3,d1,rfl,a,b⟩;rw [objs_set2 hi] at this;exact this
theorem hG {α:Type} {xs:List α} {i:Nat} {x:α} (hx:xs[i]? = some x):xs.set i x = xs:=by
 apply List.ext_getElem?;intro n;rw [List.getElem?_set];by_cases e:i = n
 ·subst e;obtain ⟨h1,h2⟩:=List.getElem?_eq_some_iff.1 hx;simp [h1,h2]
 ·simp [e]
theorem rv {i:Nat} {p:σ} {x:α} (hp:ps[i]? = some p) (hx:xs[i]? = some x) (hl:ps.length = xs.length) (s:ah (A p x::but A ps xs i::l) h):ah (all A ps xs::l) h:=by
 have:=vF hp (List.getElem?_eq_some_iff.1 hx).1 hl s
 rwa [hG hx] at this
theorem all_nil:ah l h->ah (all A [] []::l) h:=fun s=>star_cons (fun _=>trivial) s
theorem all_push {p:σ} {x:α} (hl:ps.length = xs.length) (s:ah (A p x::all A ps xs::l) h):ah (all A (ps++[p]) (xs++[x])::l) h:=by
 refine star_shut ?_;rw [objs_append p x hl];have s1:=jY (.swap _ _ _) s;have s2:=bT s1;exact jY (by simp) s2
end
theorem xg {A:As} {h:Hp} (a:A h):ah [A] h:=⟨h,emp,Dj.emp_right _,(un_emp _).symm,a,trivial⟩
section
variable {P:Program} {l:List As} {h:Hp} {τ:Type} {f:FuncId} {args:List Value} {enc:τ->Value} {K:τ->Hp->Prop} {i:Nat} {A:As}
theorem aW {φ:τ->Prop} {A':τ->As} (c:Sp P f args enc [A] (fun r=>pa_ (φ r) [A' r])) (hi:l[i]? = some A) (s:ah l h) (k:∀ r h',φ r->ah (l.set i (A' r)) h'->K r h'):cl P f args enc K h:=by
 obtain ⟨h1,h2,d,rfl,a,s'⟩:=eu hi s;refine (c h1 (xg a)).frame_mono d rfl fun v h' ⟨r,hv,q⟩ dj=>⟨r,hv,?_⟩
 obtain ⟨g1,q⟩:=q;refine k r _ g1 (cO (List.getElem?_eq_some_iff.1 hi).1 ?_);exact lD (l:=[A' r]++l.eraseIdx i) (by rw [append_nil]; exact dP.2 ⟨h',h2,dj,rfl,q,s'⟩)
theorem sM {B A':τ->As} (c:Sp P f args enc [A] (fun r=>ah [B r,A' r])) (hi:l[i]? = some A) (s:ah l h) (k:∀ r h',ah (B r::l.set i (A' r)) h'->K r h'):cl P f args enc K h:=by
 obtain ⟨h1,h2,d,rfl,a,s'⟩:=eu hi s;refine (c h1 (xg a)).frame_mono d rfl fun v h' ⟨r,hv,q⟩ dj=>⟨r,hv,k r _ ?_⟩
 have s1:ah (B r::A' r::l.eraseIdx i) (un h' h2):=(dP (l:=[B r,A' r])).2 ⟨h',h2,dj,rfl,q,s'⟩;obtain ⟨g1,g2,d2,e2,b,s2⟩:=s1;exact ⟨g1,g2,d2,e2,b,cO (List.getElem?_eq_some_iff.1 hi).1 s2⟩
theorem cl_p {φ:τ->Prop} {B A':τ->As} (c:Sp P f args enc [A] (fun r=>pa_ (φ r) [B r,A' r])) (hi:l[i]? = some A) (s:ah l h) (k:∀ r h',φ r->ah (B r::l.set i (A' r)) h'->K r h'):cl P f args enc K h:=by
 obtain ⟨h1,h2,d,rfl,a,s'⟩:=eu hi s;refine (c h1 (xg a)).frame_mono d rfl fun v h' ⟨r,hv,q⟩ dj=>⟨r,hv,?_⟩
 obtain ⟨g0,q⟩:=q;refine k r _ g0 ?_;have s1:ah (B r::A' r::l.eraseIdx i) (un h' h2):=(dP (l:=[B r,A' r])).2 ⟨h',h2,dj,rfl,q,s'⟩;obtain ⟨g1,g2,d2,e2,b,s2⟩:=s1;exact ⟨g1,g2,d2,e2,b,cO (List.getElem?_eq_some_iff.1 hi).1 s2⟩
theorem ud {φ:τ->Prop} (c:Sp P f args enc [] (fun r=>pa_ (φ r) [])) (s:ah l h) (k:∀ r h',φ r->ah l h'->K r h'):cl P f args enc K h :=
 bG [] c s rfl fun r h' s1=>by
  obtain ⟨f1,s2⟩:=aM.1 s1;exact k r h' f1 s2
theorem lW {B:τ->As} (c:Sp P f args enc [] (fun r=>ah [B r])) (s:ah l h) (k:∀ r h',ah (B r::l) h'->K r h'):cl P f args enc K h :=
 bG [] c s rfl fun r h' s1=>k r h' (bT s1)
end
end Mb
end
section
open Go Mb
attribute [local irreducible] bM gR il Val Tx Tu Tn RV Res br nn ix gd ld st nw cl clv dL Lp ct
def sh_caps_New (a0:Int) (K:kT Ptr):hT:=br ((decide (a0 < 1)) || (decide (a0 > 4))) ( K none) ( hpv prog (Instr.makeSlice t_S_8_api_Cap (.int .i64 a0) (.int .i64 a0)) R_S_8_api_Cap fun (v10:Sl)=>nw nt (nO.C (⟨v10⟩:nO)) fun b12=>K (some (b12,0)))
theorem sim_caps_New (a0:Int) {K:kT Ptr} {h:Hp} (H:sh_caps_New a0 K h):cl prog ya [(.int .i64 a0)] sP K h:=J [] func105 H
def sh_caps_Tree_is (a0:Ptr) (a1:Int) (a2:Int) (K:kT Bool):hT:=br (decide (a1 >= 0)) ( nn a0 fun q12=>ld (q12.1,q12.2 + 0) cS fun x14=>K (((decide (a1 < (x14.len:Int))) && (decide (a2 >= 0))) && (decide (a2 < 8)))) ( K false)
theorem sim_caps_Tree_is (a0:Ptr) (a1:Int) (a2:Int) {K:kT Bool} {h:Hp} (H:sh_caps_Tree_is a0 a1 a2 K h):cl prog gy [(pv a0),(.int .i64 a1),(.int .i64 a2)] ai K h:=J [] func155 H
def gU (a0:Ptr) (a1:Int) (a2:Int) (K:kT (aH × Bool)) (s1:Bool):hT:=br s1 ( K ((⟨0,0,0,0⟩:aH),false)) ( nn a0 fun q32=>ld (q32.1,q32.2 + 0) cS fun x34=>ix x34 a1 fun q37=>gd (0 <= a2/\a2 < 8)<|ld (q37.1,q37.2 + Int.toNat a1 * 32 + Int.toNat a2 * 4) aH.C fun x39=>K (x39,true))
def sh_caps_Tree_At (a0:Ptr) (a1:Int) (a2:Int) (K:kT (aH × Bool)):hT:=ct (gU a0 a1 a2 K)<|br (!a0.isNone) ( cl prog gy [(pv a0),(.int .i64 a1),(.int .i64 a2)] ai fun r14=>br (!(!r14)) ( nn a0 fun q19=>ld (q19.1,q19.2 + 0) cS fun x21=>ix x21 a1 fun q24=>gd (0 <= a2/\a2 < 8)<|ld (q24.1,q24.2 + Int.toNat a1 * 32 + Int.toNat a2 * 4 + 1) (cI .i64) fun x27=>gU a0 a1 a2 K (x27 == 0)) ( gU a0 a1 a2 K true)) ( gU a0 a1 a2 K true)
theorem sim_caps_Tree_At (a0:Ptr) (a1:Int) (a2:Int) {K:kT (aH × Bool)} {h:Hp} (H:sh_caps_Tree_At a0 a1 a2 K h):cl prog dm [(pv a0),(.int .i64 a1),(.int .i64 a2)] bL K h:=have z0:LH (σ:=Bool) 102002 1 (fun s1 r=>(29,(.bool s1))::r) [29] [0,1,2,6] (fun _ l=>l):=⟨⟩; J [2002] func110 H
def uF (a0:Ptr) (a1:Int) (a2:Int) (a3:Int) (K:kT Int):hT:=br a0.isNone ( K 10) ( cl prog gy [(pv a0),(.int .i64 a1),(.int .i64 a2)] ai fun r16=>br (((!r16) || (decide (a3 < 0))) || (decide (a3 >= 16))) ( K 2) ( nn a0 fun q28=>ld (q28.1,q28.2 + 0) cS fun x30=>ix x30 a1 fun q33=>gd (0 <= a2/\a2 < 8)<|ld (q33.1,q33.2 + Int.toNat a1 * 32 + Int.toNat a2 * 4 + 1) (cI .i64) fun x36=>br (x36 != 0) ( K 4) ( ld (q28.1,q28.2 + 0) cS fun x41=>ix x41 a1 fun q46=>st (q46.1,q46.2 + Int.toNat a1 * 32 + Int.toNat a2 * 4) (aH.C (⟨a3,3,(-1),0⟩:aH))<|K 0)))
theorem sim_caps_Tree_Root (a0:Ptr) (a1:Int) (a2:Int) (a3:Int) {K:kT Int} {h:Hp} (H:uF a0 a1 a2 a3 K h):cl prog iL [(pv a0),(.int .i64 a1),(.int .i64 a2),(.int .i64 a3)] aC K h:=J [] func142 H
def sg (a0:Ptr) (a1:Int) (a2:Int) (a3:Int) (a4:Int) (a5:Int) (K:kT Int):hT:=br a0.isNone ( K 10) ( cl prog gy [(pv a0),(.int .i64 a1),(.int .i64 a2)] ai fun r19=>br (!(!r19)) ( cl prog gy [(pv a0),(.int .i64 a3),(.int .i64 a4)] ai fun r25=>br ((!r25) || (!(aS a5))) ( K 2) ( nn a0 fun q34=>ld (q34.1,q34.2 + 0) cS fun x36=>ix x36 a1 fun q39=>gd (0 <= a2/\a2 < 8)<|ld (q39.1,q39.2 + Int.toNat a1 * 32 + Int.toNat a2 * 4) aH.C fun x41=>br (x41.fCa == 0) ( K 3) ( ld (q34.1,q34.2 + 0) cS fun x50=>ix x50 a3 fun q53=>gd (0 <= a4/\a4 < 8)<|ld (q53.1,q53.2 + Int.toNat a3 * 32 + Int.toNat a4 * 4 + 1) (cI .i64) fun x56=>br (x56 != 0) ( K 4) ( br (!(ap a5 x41.fCa)) ( K 5) ( ld (q34.1,q34.2 + 0) cS fun x67=>ix x67 a3 fun q76=>st (q76.1,q76.2 + Int.toNat a3 * 32 + Int.toNat a4 * 4) (aH.C (⟨x41.fEa,a5,a1,a2⟩:aH))<|K 0))))) ( K 2))
theorem sim_caps_Tree_Derive (a0:Ptr) (a1:Int) (a2:Int) (a3:Int) (a4:Int) (a5:Int) {K:kT Int} {h:Hp} (H:sg a0 a1 a2 a3 a4 a5 K h):cl prog gA [(pv a0),(.int .i64 a1),(.int .i64 a2),(.int .i64 a3),(.int .i64 a4),(.int .i64 a5)] aC K h:=have z0:OH 12 [0,4,8,16,20,24,28,32,36,40,44,13,48,52,58] .e []:=⟨⟩; J [] func143 H
def gm (s6:Sl × Int) (Rec18:kT (Sl × Int)) (s17:Sl × Int) (s23:Bool):hT:=br s23 ( hpv prog (Instr.buildSlice ge 1 #[(0,(.agg (au.C (⟨s6.2,s17.2⟩:au)).toArray))]) bS fun (v45:Sl)=>hpv prog (Builtin.append_ #[ge,ge] ge #[(sv s17.1),(sv v45)]) bS fun (v46:Sl)=>Rec18 (v46,(i64.wrap (s17.2 + 1)))) ( Rec18 (s17.1,(i64.wrap (s17.2 + 1))))
def wV (a1:Value) (Rec7:kT (Sl × Int)) (s6:Sl × Int) (v26:(List Value)) (Rec18:kT (Sl × Int)) (s17:Sl × Int):hT:=br (decide (s17.2 < 8)) ( hpv prog (Instr.index kM (.agg v26.toArray) (.int .i64 s17.2)) R_api_Cap fun (v30:aH)=>ct (gm s6 Rec18 s17)<|br (v30.fCa != 0) ( clv prog a1 [(.agg (au.C (⟨s6.2,s17.2⟩:au)).toArray),(.agg (aH.C v30).toArray)] ai fun r41=>gm s6 Rec18 s17 r41) ( gm s6 Rec18 s17 false)) ( Rec7 (s17.1,(i64.wrap (s6.2 + 1))))
def wW (a1:Value) (K:kT Sl) (q13:Nat × Nat) (x15:Sl) (Rec7:kT (Sl × Int)) (s6:Sl × Int):hT:=br (decide (s6.2 < (x15.len:Int))) ( ld (q13.1,q13.2 + 0) cS fun x23=>ix x23 s6.2 fun q25=>hpv prog (Instr.loadAt kM (.pointer (some ⟨q25.1,q25.2 + Int.toNat s6.2 * 32,none⟩))) encL fun (v26:(List Value))=>Lp (wV a1 Rec7 s6 v26) (s6.1,0)) ( K s6.1)
def wD (a0:Ptr) (a1:Value) (K:kT Sl):hT:=br a0.isNone ( K (⟨none,0,0,none⟩:Sl)) ( nn a0 fun q13=>ld (q13.1,q13.2 + 0) cS fun x15=>Lp (wW a1 K q13 x15) ((⟨none,0,0,none⟩:Sl),0))
theorem sim_caps_Tree_all (a0:Ptr) (a1:Value) {K:kT Sl} {h:Hp} (H:wD a0 a1 K h):cl prog jN [(pv a0),a1] bS K h:=have z0:LH (σ:=Sl × Int) 5 0 (fun s6 r=>(5,(sv s6.1))::(17,(.int .i64 s6.2))::r) [5,17] [0,1,16] (fun _ l=>l):=⟨⟩; have z1:LH (σ:=Sl × Int) 8 0 (fun s17 r=>(5,(sv s17.1))::(27,(.int .i64 s17.2))::r) [5,27] [0,1,6,16,17,26] (fun _ l=>l):=⟨⟩; have z2:LH (σ:=Bool) 102012 2 (fun s23 r=>(42,(.bool s23))::r) [42] [0,1,5,6,9,16,17,26,27] (fun _ l=>l):=⟨⟩; J [2012] func188 H
def uE (a0:Ptr) (a1:Int) (a2:Int) (K:kT Int):hT:=br a0.isNone ( K 10) ( cl prog gy [(pv a0),(.int .i64 a1),(.int .i64 a2)] ai fun r14=>br (!r14) ( K 2) ( nn a0 fun q18=>ld (q18.1,q18.2 + 0) cS fun x20=>ix x20 a1 fun q23=>gd (0 <= a2/\a2 < 8)<|ld (q23.1,q23.2 + Int.toNat a1 * 32 + Int.toNat a2 * 4 + 1) (cI .i64) fun x26=>br (x26 == 0) ( K 3) ( K 0)))
theorem sim_caps_Tree_look (a0:Ptr) (a1:Int) (a2:Int) {K:kT Int} {h:Hp} (H:uE a0 a1 a2 K h):cl prog lT [(pv a0),(.int .i64 a1),(.int .i64 a2)] aC K h:=J [] func204 H
def rr (a0:Ptr) (a1:Sl) (K:kT Sl) (Rec2:kT Int) (s1:Int):hT:=br (decide (s1 < (a1.len:Int))) ( ix a1 s1 fun q11=>ld (q11.1,q11.2 + Int.toNat s1 * 2) au.C fun x12=>nn a0 fun q14=>ld (q14.1,q14.2 + 0) cS fun x16=>ix x16 x12.fBa fun q22=>gd (0 <= x12.fDa/\x12.fDa < 8)<|st (q22.1,q22.2 + Int.toNat x12.fBa * 32 + Int.toNat x12.fDa * 4) (aH.C (⟨0,0,0,0⟩:aH))<|Rec2 (i64.wrap (s1 + 1))) ( K a1)
def rf (a0:Ptr) (a1:Sl) (K:kT Sl):hT:=Lp (rr a0 a1 K) 0
theorem sim_caps_Tree_empties (a0:Ptr) (a1:Sl) {K:kT Sl} {h:Hp} (H:rf a0 a1 K h):cl prog fM [(pv a0),(sv a1)] bS K h:=have z0:LH (σ:=Int) 2 0 (fun s1 r=>(9,(.int .i64 s1))::r) [9] [0,1,7,8] (fun _ l=>l):=⟨⟩; have z1:OH 4 [0,16,20,24,28,32,4,8,13,36,40,46] .e []:=⟨⟩; J [] func205 H
def tW (a0:Ptr) (a2:au) (K:kT Bool) (Rec2:kT aH) (s1:aH):hT:=br ((s1.fCa != 0) && (decide (s1.fBa >= 0))) ( br ((s1.fBa == a2.fBa) && (s1.fDa == a2.fDa)) ( K true) ( nn a0 fun q28=>ld (q28.1,q28.2 + 0) cS fun x30=>ix x30 s1.fBa fun q35=>gd (0 <= s1.fDa/\s1.fDa < 8)<|ld (q35.1,q35.2 + Int.toNat s1.fBa * 32 + Int.toNat s1.fDa * 4) aH.C fun x37=>Rec2 x37)) ( K false)
def tx (a0:Ptr) (a1:aH) (a2:au) (K:kT Bool):hT:=Lp (tW a0 a2 K) a1
theorem sim_caps_Tree_under (a0:Ptr) (a1:aH) (a2:au) {K:kT Bool} {h:Hp} (H:tx a0 a1 a2 K h):cl prog kE [(pv a0),(.agg (aH.C a1).toArray),(.agg (au.C a2).toArray)] ai K h:=have z0:LH (σ:=aH) 1 2 (fun _ r=>r) [] [0,4,5] (fun s1 l=>(setB l 1 (aH.C s1))):=⟨⟩; have z1:OH 4 [0,16,24,4,8,13,21,32,29,36,41,46] .e [1,0]:=⟨⟩; J [] func190 H
def rg (a0:au) (a1:aH) (c0:Nat) (c1:Nat) (K:kT Bool):hT:=ld (c0,0) au.C fun x8=>br (!(au.eqb a0 x8)) ( ld (c1,0) cP fun x11=>ld (c0,0) au.C fun x13=>cl prog kE [(pv x11),(.agg (aH.C a1).toArray),(.agg (au.C x13).toArray)] ai fun r14=>K r14) ( K true)
theorem sim_caps_Tree_Drop_c1 (a0:au) (a1:aH) (c0:Nat) (c1:Nat) {K:kT Bool} {h:Hp} (H:rg a0 a1 c0 c1 K h):cl prog fN [(.agg (au.C a0).toArray),(.agg (aH.C a1).toArray),(.pointer (some ⟨c0,0,none⟩)),(.pointer (some ⟨c1,0,none⟩))] ai K h:=J [] func206 H
def uG (a0:Ptr) (a1:Int) (a2:Int) (K:kT (Sl × Int)):hT:=nw sq [pv a0] fun b3=>ld (b3,0) cP fun x10=>cl prog lT [(pv x10),(.int .i64 a1),(.int .i64 a2)] aC fun r13=>br (r13 != 0) ( K ((⟨none,0,0,none⟩:Sl),r13)) ( nw so (au.C (⟨0,0⟩:au)) fun b9=>st (b9,0) (au.C (⟨a1,a2⟩:au))<|ld (b3,0) cP fun x21=>dL ( ld (b3,0) cP fun x20=>cl prog jN [(pv x21),(.func (.func fN) #[] #[(.pointer (some ⟨b9,0,none⟩)),(.pointer (some ⟨b3,0,none⟩))])] bS fun r23=>cl prog fM [(pv x20),(sv r23)] bS fun r24=>K (r24,0)) ( cl prog jN [(pv x21),(.func (.func fN) #[] #[(.pointer (some ⟨b9,0,none⟩)),(.pointer (some ⟨b3,0,none⟩))])] bS fun r23=>ld (b3,0) cP fun x20=>cl prog fM [(pv x20),(sv r23)] bS fun r24=>K (r24,0)))
theorem sim_caps_Tree_Drop (a0:Ptr) (a1:Int) (a2:Int) {K:kT (Sl × Int)} {h:Hp} (H:uG a0 a1 a2 K h):cl prog lU [(pv a0),(.int .i64 a1),(.int .i64 a2)] cC K h:=have z0:OH 5 [8,5] (.b 0 3 [14,18,20,24] .e [1,18,20,24] .e) []:=⟨⟩; J [] func178 H
def pE (a0:au) (a1:aH) (c0:Nat) (c1:Nat) (c2:Nat) (K:kT Bool):hT:=ld (c0,0) cP fun x8=>ld (c1,0) (cI .i64) fun x10=>ld (c2,0) (cI .i64) fun x11=>cl prog kE [(pv x8),(.agg (aH.C a1).toArray),(.agg (au.C (⟨x10,x11⟩:au)).toArray)] ai fun r13=>K r13
theorem xE (a0:au) (a1:aH) (c0:Nat) (c1:Nat) (c2:Nat) {K:kT Bool} {h:Hp} (H:pE a0 a1 c0 c1 c2 K h):cl prog lx [(.agg (au.C a0).toArray),(.agg (aH.C a1).toArray),(.pointer (some ⟨c0,0,none⟩)),(.pointer (some ⟨c1,0,none⟩)),(.pointer (some ⟨c2,0,none⟩))] ai K h:=J [] func189 H
def tz (a0:Ptr) (a1:Int) (a2:Int) (K:kT Sl):hT:=nw sq [pv a0] fun b3=>nw kv [.int .i64 a1] fun b4=>nw kv [.int .i64 a2] fun b5=>ld (b3,0) cP fun x7=>cl prog jN [(pv x7),(.func (.func lx) #[] #[(.pointer (some ⟨b3,0,none⟩)),(.pointer (some ⟨b4,0,none⟩)),(.pointer (some ⟨b5,0,none⟩))])] bS fun r9=>K r9
theorem sim_caps_Tree_Below (a0:Ptr) (a1:Int) (a2:Int) {K:kT Sl} {h:Hp} (H:tz a0 a1 a2 K h):cl prog kF [(pv a0),(.int .i64 a1),(.int .i64 a2)] bS K h:=J [] func147 H
def sf (a0:Ptr) (a1:Int) (a2:Int) (K:kT (Sl × Int)):hT:=cl prog lT [(pv a0),(.int .i64 a1),(.int .i64 a2)] aC fun r12=>br (r12 != 0) ( K ((⟨none,0,0,none⟩:Sl),r12)) ( cl prog kF [(pv a0),(.int .i64 a1),(.int .i64 a2)] bS fun r20=>cl prog fM [(pv a0),(sv r20)] bS fun r21=>K (r21,0))
theorem sim_caps_Tree_Revoke (a0:Ptr) (a1:Int) (a2:Int) {K:kT (Sl × Int)} {h:Hp} (H:sf a0 a1 a2 K h):cl prog np [(pv a0),(.int .i64 a1),(.int .i64 a2)] cC K h:=J [] func179 H
end
end Go.Proofs.YtjcamacgclipiaaGreatDoor
