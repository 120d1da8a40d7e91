/- Part of the proof of: The law HistReal returns true for every input, and leaves its arguments as they were. -/
import Derived.Test.YtemoifebbhoinaaGreatDoorHistReal06
set_option linter.all false
set_option maxRecDepth 20000
namespace Go.Proofs.YtemoifebbhoinaaGreatDoor
open Go.Proofs.Tryz
open Go.IntKind (i64 u64)
open _root_.Int (eq_ofNat_of_zero_le)
open _root_.List (nil_append replicate take_length)
open _root_.Nat (add_zero)
section
open Go Mb
def tR (a0:Ptr) (a1:Int) (K:Bool->Hp->Prop):Hp->Prop:=br ((!a0.isNone) && (decide (a1 >= 0))) ( nn a0 fun q14=>ld (q14.1,q14.2 + 1) cS fun x16=>K (decide (a1 < (x16.len:Int)))) ( K false)
theorem sim_epoch_Epochs_is (a0:Ptr) (a1:Int) {K:Bool->Hp->Prop} {h:Hp} (H:tR a0 a1 K h):cl prog lI [(pv a0),(.int .i64 a1)] aC K h:=z_i func118 p p fun _=>O<|U p<|O<|M p<|J (v_pneT underlying106 p)<|M p<|W p p (ay _) (fun g1=>wv<|ai p)<|W p p (ay _) (fun g2=>wv<|jF (aG p g2) p)<|J (bQ p p)<|M p<|W p p (ay _) (fun g3=>wv<|ai p)<|W p p (ay _) (fun g4=>wv<|ai p)<|bU H (fun k6 H7=>bK H7 fun q14 e8 H9=>G (F k6)<|z_p (aK<|aJ (aG p k6)<|ar e8)<|G (F k6)<|z_p (ah fld_167_1 p)<|G (F k6)<|aW H9 sc_93 p (fun _=>p) p fun x16 H10=>G (F k6)<|z_p (dA p underlying93 p)<|G (F k6)<|z_p (cj (aG p k6) p)<|J (aS p k6 p)<|U p<|aj<|Z ⟨decide (a1 < (x16.len:Int)),p,H10⟩) fun k6 H7=>Y (aT k6)<|Y (aT k6)<|Y (aT k6)<|Y (aT k6)<|Y (aT k6)<|J (au p k6 p)<|U p<|aj<|Z ⟨false,p,H7⟩
def sI (a0:Ptr) (K:Int->Hp->Prop):Hp->Prop:=br a0.isNone ( K 0) ( nn a0 fun q6=>ld (q6.1,q6.2 + 0) cS fun x8=>K (u64.wrap (x8.len:Int)))
theorem sim_epoch_Epochs_Now (a0:Ptr) {K:Int->Hp->Prop} {h:Hp} (H:sI a0 K h):cl prog gi [(pv a0)] hH K h:=z_i func119 p p fun _=>O<|U p<|am<|O<|M p<|J (cA underlying106 p)<|ae<|ax p H (fun k1 H2=>O<|U p<|aj<|Z ⟨0,p,H2⟩) fun k1 H2=>ap<|O<|M p<|bK H2 fun q6 e3 H4=>J (aK<|aJ p<|ar e3)<|J (ah fld_167_0 p)<|aa<|aW H4 sc_39 p (fun _=>p) p fun x8 H5=>J (dA p underlying39 p)<|J (dw ⟨_,underlying3⟩ underlying22 p)<|U p<|aj<|Z ⟨u64.wrap (x8.len:Int),p,H5⟩
def qv (a0:Ptr) (a1:Int) (K:(Int × Bool)->Hp->Prop):Hp->Prop:=cl prog lI [(pv a0),(.int .i64 a1)] aC fun r8=>br (!r8) ( K (0,false)) ( nn a0 fun q12=>ld (q12.1,q12.2 + 0) cS fun x14=>hpv prog (Instr.buildSlice dU 1 #[(0,(.int .i64 a1))]) cC fun (v16:Sl)=>hpv prog (Builtin.append_ #[dU,dU] dU #[(sv x14),(sv v16)]) cC fun (v17:Sl)=>st (q12.1,q12.2 + 0) [sv v17]<|cl prog gi [(.pointer (some ⟨q12.1,q12.2,none⟩))] hH fun r21=>K (r21,true))
theorem xW (a0:Ptr) (a1:Int) {K:(Int × Bool)->Hp->Prop} {h:Hp} (H:qv a0 a1 K h):cl prog ju [(pv a0),(.int .i64 a1)] bN K h:=z_i func69 p p fun _=>O<|J (av p)<|U p<|am<|O<|M p<|M p<|aa<|D H en_118 fun r8 _ H1=>J (cy p)<|ae<|ax p H1 (fun k2 H3=>O<|J (av p)<|U p<|aj<|bD (bW p (cg p)<|cg p) ⟨(0,false),p,H3⟩) fun k2 H3=>ap<|O<|M p<|M p<|bK H3 fun q12 e4 H5=>J (aK<|aJ p<|ar e4)<|J (ah fld_167_0 p)<|aa<|aW H5 sc_39 p (fun _=>p) p fun x14 H6=>M p<|aa<|aV H6 (bE (vs:=[(.int .i64 a1)]) p) p fun v16 _ H7=>aa<|aV H7 (dT p p) p fun v17 _ H8=>J (aK<|aJ p<|ar e4)<|J (ah fld_167_0 p)<|aa<|di inf_39 p p p p p H8 fun _ H9=>ae<|O<|M (aJ p<|ar e4)<|aa<|D H9 en_119 fun r21 _ H10=>J (av p)<|U p<|aj<|bD (bW p (cg p)<|cg p) ⟨(r21,true),p,H10⟩
def dB (Rec13:(Sl × Int)->Hp->Prop) (s12:Sl × Int) (s21:Bool):Hp->Prop:=br s21 ( hpv prog (Instr.buildSlice dU 1 #[(0,(.int .i64 s12.2))]) cC fun (v43:Sl)=>hpv prog (Builtin.append_ #[dU,dU] dU #[(sv s12.1),(sv v43)]) cC fun (v44:Sl)=>Rec13 (v44,(i64.wrap (s12.2 + 1)))) ( Rec13 (s12.1,(i64.wrap (s12.2 + 1))))
def lz (a1:Int) (K:Sl->Hp->Prop) (q17:Nat × Nat) (x19:Sl) (Rec13:(Sl × Int)->Hp->Prop) (s12:Sl × Int):Hp->Prop:=br (decide (s12.2 < (x19.len:Int))) ( ix x19 s12.2 fun q24=>ld (q24.1,q24.2 + Int.toNat s12.2 * 1) (cI .u64) fun x25=>br (decide (x25 < a1)) ( ld (q17.1,q17.2 + 0) cS fun x33=>ix x33 (u64.wrap (a1 - 1)) fun q36=>ld (q36.1,q36.2 + Int.toNat (u64.wrap (a1 - 1)) * 1) (cI .i64) fun x37=>dB Rec13 s12 (x37 != s12.2)) ( dB Rec13 s12 false)) ( K s12.1)
def qu (a0:Ptr) (a1:Int) (K:Sl->Hp->Prop):Hp->Prop:=br (!(decide (a1 < 1))) ( cl prog gi [(pv a0)] hH fun r13=>br (decide (a1 > r13)) ( K (⟨none,0,0,none⟩:Sl)) ( nn a0 fun q17=>ld (q17.1,q17.2 + 1) cS fun x19=>Lp (lz a1 K q17 x19) ((⟨none,0,0,none⟩:Sl),0))) ( K (⟨none,0,0,none⟩:Sl))
theorem xV (a0:Ptr) (a1:Int) {K:Sl->Hp->Prop} {h:Hp} (H:qu a0 a1 K h):cl prog jt [(pv a0),(.int .u64 a1)] cC K h:=z_i func121 p p fun _=>O<|U p<|am<|O<|M p<|J (cj p p)<|M p<|W p p (aL _) (fun g1=>wv<|ai p)<|W p p (aL _) (fun g2=>wv<|ai p)<|bU H (fun k4 H5=>G (F<|bO k4)<|gw H5 en_119 (aU (aG p k4) bX) p fun r13 _ H6=>G (F<|bO k4)<|z_p (oZ (aG p k4) p)<|J (au p (bO k4) p)<|ae<|ax p H6 (fun k7 H8=>O<|U p<|aj<|Z ⟨(⟨none,0,0,none⟩:Sl),p,H8⟩) fun k7 H8=>ap<|O<|U p<|am<|O<|M p<|bK H8 fun q17 e9 H10=>J (aK<|aJ p<|ar e9)<|J (ah fld_167_1 p)<|aa<|aW H10 sc_93 p (fun _=>p) p fun x19 H11=>J (dA p underlying93 p)<|M p<|ae<|aw<|bz (step:=lz a1 K q17 x19) (fun s12=>[(0,(pv a0)),(1,(.int .u64 a1)),(5,(sv s12.1)),(19,(sv x19)),(20,(.int .i64 (x19.len:Int))),(21,(.int .i64 s12.2))]) (fun s12=>[]) H11 (.cons p<|.cons p<|.cons p<|.cons p<|.cons p<|.cons p<|.nil _) .slnil fun Rec13 s12 _ H14=>O<|J (cj p p)<|ae<|am<|ax p H14 (fun k15 H16=>ap<|am<|aw<|O<|M p<|cq H16 fun q24 e17 h18 H19=>J (be xI (aJ p<|aX e17) p h18)<|aa<|aW H19 cG p (fun _=>p) p fun x25 H20=>J (av p)<|U p<|eC (dB Rec13 s12) (fun s21=>[(0,(pv a0)),(1,(.int .u64 a1)),(5,(sv s12.1)),(6,(.int .i64 s12.2)),(19,(sv x19)),(20,(.int .i64 (x19.len:Int))),(21,(.int .i64 s12.2)),(40,(.bool s21))]) (fun s21=>[]) (aq<|M p<|M p<|J (cj p p)<|M p<|W p p (ay _) (fun g27=>wv<|ai<|aJ p<|ar e9)<|W p p (ay _) (fun g28=>wv<|aK<|aG p g28)<|W p p (ay _) (fun g29=>wv<|ah fld_167_0<|aG p g29)<|bU H20 (fun k31 H32=>G (F k31)<|aW H32 sc_39 (aG p k31) (fun _=>p) p fun x33 H33=>G (F k31)<|z_p (ai p)<|G (F k31)<|z_p (iT p p)<|cq H33 fun q36 e34 h35 H36=>G (F k31)<|z_p (be dF (aJ p<|aX e34) p h35)<|G (F k31)<|aW H36 ba p (fun _=>p) p fun x37 H37=>G (F k31)<|z_p (ai p)<|G (F k31)<|z_p (qz p p)<|J (aS p k31 p)<|ae<|cE (x37 != s12.2) H37 (.cons p<|.cons p<|.cons p<|.cons p<|.cons p<|.cons p<|.cons p<|.cons p<|.nil _) .slnil) fun k31 H32=>Y (aT k31)<|Y (aT k31)<|Y (aT k31)<|Y (aT k31)<|Y (aT k31)<|Y (aT k31)<|Y (aT k31)<|J (au p k31 p)<|ae<|cE false H32 (.cons p<|.cons p<|.cons p<|.cons p<|.cons p<|.cons p<|.cons p<|.cons p<|.nil _) .slnil) fun s21 _ H22=>ax p H22 (fun k23 H24=>aq<|M p<|M p<|aa<|aV H24 (bE (vs:=[(.int .i64 s12.2)]) p) p fun v43 _ H25=>aa<|aV H25 (dT p p) p fun v44 _ H26=>U p<|aq<|J (bk p p)<|M p<|ae<|cF (v44,(i64.wrap (s12.2 + 1))) H26 (.cons p<|.cons p<|.cons p<|.cons p<|.cons p<|.cons p<|.nil _) .slnil) fun k23 H24=>ap<|aq<|J (bk p p)<|M p<|ae<|cF (s12.1,(i64.wrap (s12.2 + 1))) H24 (.cons p<|.cons p<|.cons p<|.cons p<|.cons p<|.cons p<|.nil _) .slnil) fun k15 H16=>bh<|O<|M p<|U p<|aj<|Z ⟨s12.1,p,H16⟩) fun k4 H5=>Y (bL<|bq k4)<|Y (bL<|bq k4)<|J (aS p (bq k4) p)<|ae<|kL p p<|O<|U p<|aj<|Z ⟨(⟨none,0,0,none⟩:Sl),p,H5⟩
def rF (a0:Ptr) (a1:Int) (K:Bool->Hp->Prop):Hp->Prop:=br (decide (a1 >= 1)) ( cl prog gi [(pv a0)] hH fun r10=>br (decide (a1 <= r10)) ( cl prog jt [(pv a0),(.int .u64 a1)] cC fun r16=>K ((r16.len:Int) == 0)) ( K false)) ( K false)
theorem sim_epoch_Epochs_Done (a0:Ptr) (a1:Int) {K:Bool->Hp->Prop} {h:Hp} (H:rF a0 a1 K h):cl prog jP [(pv a0),(.int .u64 a1)] aC K h:=z_i func71 p p fun _=>O<|U p<|O<|M p<|J (jF p p)<|M p<|W p p (ay _) (fun g1=>wv<|ai p)<|W p p (ay _) (fun g2=>wv<|ai p)<|bU H (fun k4 H5=>G (F k4)<|gw H5 en_119 (aU (aG p k4) bX) p fun r10 _ H6=>G (F k4)<|z_p (v_le (aG p k4) p)<|J (aS p k4 p)<|M p<|W p p (ay _) (fun g7=>wv<|ai p)<|W p p (ay _) (fun g8=>wv<|ai p)<|bU H6 (fun k10 H11=>G (F k10)<|gw H11 en_121 (aU (aG p k10)<|aU (aG p k10) bX) p fun r16 _ H12=>G (F k10)<|z_p (dA p underlying39 p)<|G (F k10)<|z_p (bP p p)<|J (aS p k10 p)<|U p<|aj<|Z ⟨((r16.len:Int) == 0),p,H12⟩) fun k10 H11=>Y (aT k10)<|Y (aT k10)<|Y (aT k10)<|J (au p k10 p)<|U p<|aj<|Z ⟨false,p,H11⟩) fun k4 H5=>Y (aT k4)<|Y (aT k4)<|J (au p k4 p)<|M p<|Y p<|Y p<|Y p<|Y p<|Y p<|J (au p p p)<|U p<|aj<|Z ⟨false,p,H5⟩
def sJ (a0:Ptr) (a1:Int) (a2:Int) (K:Bool->Hp->Prop):Hp->Prop:=cl prog lI [(pv a0),(.int .i64 a1)] aC fun r9=>br (!((!r9) || (decide (a2 < 1)))) ( cl prog gi [(pv a0)] hH fun r18=>br (decide (a2 > r18)) ( K false) ( nn a0 fun q22=>ld (q22.1,q22.2 + 1) cS fun x29=>ix x29 a1 fun q31=>ld (q31.1,q31.2 + Int.toNat a1 * 1) (cI .u64) fun x32=>ld (q22.1,q22.2 + 1) cS fun x24=>ix x24 a1 fun q35=>st (q35.1,q35.2 + Int.toNat a1 * 1) [.int .u64 (mx x32 a2)]<|K true)) ( K false)
theorem sim_epoch_Epochs_Ack (a0:Ptr) (a1:Int) (a2:Int) {K:Bool->Hp->Prop} {h:Hp} (H:sJ a0 a1 a2 K h):cl prog kJ [(pv a0),(.int .i64 a1),(.int .u64 a2)] aC K h:=z_i func98 p p fun _=>O<|U p<|am<|O<|M p<|M p<|aa<|D H en_118 fun r9 _ H1=>J (cy p)<|M p<|W p p (aL _) (fun g2=>wv<|ai p)<|W p p (aL _) (fun g3=>wv<|cj (aG p g3) p)<|J (dy p p)<|M p<|W p p (aL _) (fun g4=>wv<|ai p)<|W p p (aL _) (fun g5=>wv<|ai p)<|bU H1 (fun k7 H8=>G (F<|bO k7)<|gw H8 en_119 (aU (aG p k7) bX) p fun r18 _ H9=>G (F<|bO k7)<|z_p (oZ (aG p k7) p)<|J (au p (bO k7) p)<|ae<|ax p H9 (fun k10 H11=>O<|U p<|aj<|Z ⟨false,p,H11⟩) fun k10 H11=>ap<|am<|bn (n:=16) [] ck p .slnil<|V 0 p (ai p)<|V 4 p (ai p)<|V 5 p (ai p)<|V 9 p (ai p)<|V 12 p (ai p)<|ii H11 fun q22 e12 H13=>V 1 p (aK<|aJ p<|ar e12)<|V 2 p (ah fld_167_1 p)<|V 6 p (aK<|aJ p<|ar e12)<|V 7 p (ah fld_167_1 p)<|bA (i:=8) (fun _ _ _ _ hh=>hh) H13 p (by kernel_rfl) sc_93 p (fun _=>p) p fun x29 H14=>dJ H14 fun q31 e15 h16 H17=>V 10 p (be xI (aJ p<|aX e15) p h16)<|bA (i:=11) (fun _ _ _ _ hh=>hh) H17 p (by kernel_rfl) cG p (fun _=>p) p fun x32 H18=>V 13 p (v_maxT p p)<|bA (i:=3) (fun _ _ _ _ hh=>hh) H18 p (by kernel_rfl) sc_93 p (fun _=>p) p fun x24 H19=>dJ H19 fun q35 e20 h21 H22=>V 14 p (be xI (aJ p<|aX e20) p h21)<|I 15 p<|di inf_22 p p p p p H22 fun _ H23=>⟨.slnil,aR (by kernel_rfl)<|O<|U p<|aj<|Z ⟨true,p,H23⟩⟩) fun k7 H8=>Y (bL<|bq k7)<|Y (bL<|bq k7)<|J (aS p (bq k7) p)<|ae<|kL p p<|O<|U p<|aj<|Z ⟨false,p,H8⟩
def sh_epoch_New (a0:Int) (K:Ptr->Hp->Prop):Hp->Prop:=br ((decide (a0 < 1)) || (decide (a0 > 8))) ( K none) ( hpv prog (Instr.makeSlice bf (.int .i64 a0) (.int .i64 a0)) ch fun (v10:Sl)=>nw iy (ko.C (⟨(⟨none,0,0,none⟩:Sl),v10⟩:ko)) fun b12=>K (some (b12,0)))
theorem sim_epoch_New (a0:Int) {K:Ptr->Hp->Prop} {h:Hp} (H:sh_epoch_New a0 K h):cl prog oN [(.int .i64 a0)] jj K h:=z_i func58 p p fun _=>O<|U p<|am<|O<|M p<|J (cj p p)<|M p<|W p p (aL _) (fun g1=>wv<|ai p)<|W p p (aL _) (fun g2=>wv<|oZ (aG p g2) p)<|J (dy p p)<|ae<|ax p H (fun k3 H4=>O<|U p<|aj<|Z ⟨none,p,H4⟩) fun k3 H4=>ap<|O<|M p<|aa<|aV H4 (kr p p) p fun v10 _ H5=>J (bd p<|build_167_1 v10)<|aa<|iw p p p H5 fun b12 _ H6=>U p<|aj<|Z ⟨some (b12,0),p,H6⟩
end
section
open Go Mb
def fB (x:Ptr) (e:List Int × List Int):As:=fun h=>∃ bs:Nat × Sl × Sl,(x = some (bs.1,0)/\e.2.length <= 8/\e.1.length < 2 ^ 38)/\aB [blk bs.1 iy [sv bs.2.1,sv bs.2.2],vI bs.2.1 e.1,vU bs.2.2 e.2] h
theorem ep_op {x:Ptr} {e:List Int × List Int} {l:List As} {h:Hp} (s0:aB (fB x e::l) h):∃ b s t,x = some (b,0)/\e.2.length <= 8/\e.1.length < 2 ^ 38/\s.len = e.1.length/\t.len = e.2.length/\aB (blk b iy [sv s,sv t]::vI s e.1::vU t e.2::l) h:=by
 obtain ⟨⟨b,s,t⟩,⟨hx,h1,h2⟩,st⟩:=op_ s0
 exact ⟨b,s,t,hx,h1,h2,(cc (j:=1) st rfl).1,(cc (j:=2) st rfl).1,st⟩
theorem ep_cl {b:Nat} {s t:Sl} {e1 e2:List Int} {l:List As} {h:Hp} (h1:e2.length <= 8) (h2:e1.length < 2 ^ 38) (st:aB (blk b iy [sv s,sv t]::vI s e1::vU t e2::l) h):aB (fB (some (b,0)) (e1,e2)::l) h :=
 cl_ (m:=fun bs:Nat × Sl × Sl=>[blk bs.1 iy [sv bs.2.1,sv bs.2.2],vI bs.2.1 (e1,e2).1,vU bs.2.2 (e1,e2).2]) (b,s,t) ⟨rfl,h1,h2⟩ st
namespace fNa
abbrev S:=List Int × List Int
def is (e:S) (c:Int):Bool:=decide (0 <= c/\c < e.2.length)
def now (e:S):Int:=e.1.length
def begin_ (e:S) (c:Int):(Int × Bool) × S:=if is e c then ((e.1.length + 1,true),(e.1++[c],e.2)) else ((0,false),e)
def ack (e:S) (c n:Int):Bool × S:=if is e c = true/\¬ n < 1/\¬ n > now e then (true,(e.1,e.2.set c.toNat (mx (e.2.getD c.toNat 0) n))) else (false,e)
def fIb (n o:Int):List Int->Int->List Int
 | [],_=>[]
 | a::l,i=>if a < n/\o ≠ i then i::fIb n o l (i + 1) else fIb n o l (i + 1)
def waits (e:S) (n:Int):List Int:=if n < 1\/n > now e then [] else fIb n (e.1.getD (n - 1).toNat 0) e.2 0
def done (e:S) (n:Int):Bool:=decide (n >= 1) && decide (n <= now e) && decide (waits e n = [])
end fNa
theorem wrapU {n:Int} (h0:0 <= n) (h1:n < 2^64):u64.wrap n = n:=by
 simp only [IntKind.wrap]; first | omega | (simp [IntKind.bits,IntKind.signed]; omega)
theorem sW (n:Int) (h1:¬ n < 1) (h2:¬ n > 8):Sp prog oN [.int .i64 n] jj [] (fun r=>aB [fB r ([],replicate n.toNat 0)]):=by
 intro h st
 refine sim_epoch_New _ ?_
 unfold sh_epoch_New
 obtain ⟨m,rfl⟩:=eq_ofNat_of_zero_le (show 0 <= n by omega)
 refine dO (by simp; omega) ?_
 refine oO (τ:=Int) (x0:=0) (enc:=cI .u64) (n:=m) gm rfl st ?_ ?_ ?_
 ·omega
 ·omega
 ·intro v h' s1
  refine pG s1 fun b h'' s2=>?_
  exact ep_cl (by simp; omega) (by simp) (bb [1] (fX s2) rfl)
theorem sp_epoch_is (x:Ptr) (e:fNa.S) (c:Int):Sp prog lI [pv x,.int .i64 c] aC [fB x e] (fun r=>pa_ (r = fNa.is e c) [fB x e]):=by
 intro h s0
 obtain ⟨b,s,t,rfl,hb,he,hs,ht,st⟩:=ep_op s0
 refine sim_epoch_Epochs_is _ _ ?_
 unfold tR
 refine aY (fun k=>?_) (fun k=>?_)
 ·have k':0 <= c:=by simpa using k
  refine cL (bp t st (i:=0) rfl rfl rfl ?_)
  exact aZ (by simp [fNa.is,k',ht]) s0
 ·have k':¬ 0 <= c:=by simpa using k
  exact aZ (by simp [fNa.is]; intro h; exact absurd h k') s0
theorem sV (x:Ptr) (e:fNa.S):Sp prog gi [pv x] hH [fB x e] (fun r=>pa_ (r = fNa.now e) [fB x e]):=by
 intro h s0
 obtain ⟨b,s,t,rfl,hb,he,hs,ht,st⟩:=ep_op s0
 refine sim_epoch_Epochs_Now _ ?_
 unfold sI
 refine dO rfl (cL (bp s st (i:=0) rfl rfl rfl ?_))
 exact aZ (by rw [wrapU (by omega) (by omega),hs]; rfl) s0
theorem sp_epoch_Begin (x:Ptr) (e:fNa.S) (c:Int) (hl:e.1.length < 2 ^ 37):Sp prog ju [pv x,.int .i64 c] bN [fB x e] (fun r=>pa_ (r = (fNa.begin_ e c).1) [fB x (fNa.begin_ e c).2]):=by
 intro h s0
 refine xW _ _ ?_
 unfold qv
 refine cW [0] (sp_epoch_is x e c) s0 rfl fun r h1 s1=>?_
 obtain ⟨hr,s2⟩:=bt.1 s1
 subst hr
 refine aY (fun k=>?_) (fun k=>?_)
 ·have k':fNa.is e c = false:=by simpa using k
  have e1:fNa.begin_ e c = ((0,false),e):=by unfold fNa.begin_; rw [k']; rfl
  rw [e1]
  exact aZ rfl s2
 ·have k':fNa.is e c = true:=by simpa using k
  have e1:fNa.begin_ e c = (((e.1.length:Int) + 1,true),(e.1++[c],e.2)):=if_pos k'
  rw [e1]
  obtain ⟨b,s,t,rfl,hb,he,hs,ht,st⟩:=ep_op s2
  refine cL (bp s st (i:=0) rfl rfl rfl ?_)
  refine xw st (i:=1) rfl (by omega) fun v h3 s3=>?_
  refine uG (i:=0) s3 rfl (show 0 + 0 + 1 <= 2 by decide) fun h4 s4=>?_
  have s5:=ep_cl (e1:=e.1++[c]) (e2:=e.2) hb (by simp; omega) s4
  refine cW [0] (sV (some (b,0)) (e.1++[c],e.2)) s5 rfl fun r h6 s6=>?_
  obtain ⟨hr,s7⟩:=bt.1 s6
  subst hr
  exact aZ (by simp [fNa.now]) s7
theorem sp_epoch_Ack (x:Ptr) (e:fNa.S) (c n:Int):Sp prog kJ [pv x,.int .i64 c,.int .u64 n] aC [fB x e] (fun r=>pa_ (r = (fNa.ack e c n).1) [fB x (fNa.ack e c n).2]):=by
 intro h s0
 refine sim_epoch_Epochs_Ack _ _ _ ?_
 unfold sJ
 refine cW [0] (sp_epoch_is x e c) s0 rfl fun r h1 s1=>?_
 obtain ⟨hr,s2⟩:=bt.1 s1
 subst hr
 have no:¬ (fNa.is e c = true/\¬ n < 1/\¬ n > fNa.now e)->fNa.ack e c n = (false,e):=fun hh=>if_neg hh
 refine aY (fun k=>?_) (fun k=>?_)
 ·have k':fNa.is e c = true/\¬ n < 1:=by simpa using k
  refine cW [0] (sV x e) s2 rfl fun r h3 s3=>?_
  obtain ⟨hr,s4⟩:=bt.1 s3
  subst hr
  refine aY (fun k2=>?_) (fun k2=>?_)
  ·rw [no (fun hh=>hh.2.2 (by simpa using k2))]
   exact aZ rfl s4
  ·have k2':¬ n > fNa.now e:=by simpa using k2
   have e1:fNa.ack e c n = (true,(e.1,e.2.set c.toNat (mx (e.2.getD c.toNat 0) n))):=if_pos ⟨k'.1,k'.2,k2'⟩
   rw [e1]
   obtain ⟨b,s,t,rfl,hb,he,hs,ht,st⟩:=ep_op s4
   have hc:=k'.1
   unfold fNa.is at hc
   have hc':=of_decide_eq_true hc
   obtain ⟨m,rfl⟩:=eq_ofNat_of_zero_le hc'.1
   have hm:m < e.2.length:=by omega
   refine cL (bp t st (i:=0) rfl rfl rfl ?_)
   refine cZ st (j:=2) rfl (by omega) (by omega) fun q hq=>?_
   refine dz (j:=2) (i:=m) (k:=0) e.2[m] (ct _) st rfl hq (by simp) (aE hm) (by simp) ?_
   refine bp t st (i:=0) rfl rfl rfl ?_
   refine cZ st (j:=2) rfl (by omega) (by omega) fun q2 hq2=>?_
   refine uF (j:=2) (i:=m) (k:=0) (mx e.2[m] n) (ct _) st rfl hq2 (by simp) (aE hm) (by simp) rfl fun h5 s5=>?_
   have hg:e.2.getD (m:Int).toNat 0 = e.2[m]:=by simp [hm]
   rw [hg]
   exact aZ rfl (ep_cl (by simpa using hb) he s5)
 ·have k':¬ (fNa.is e c = true/\¬ n < 1):=by simp at k; simp; omega
  rw [no (fun hh=>k' ⟨hh.1,hh.2.1⟩)]
  exact aZ rfl s2
theorem xy (n o:Int):∀ (l:List Int) (i:Int) (a:Int),fNa.fIb n o (l++[a]) i = fNa.fIb n o l i++(if a < n/\o ≠ i + l.length then [i + l.length] else [])
 | [],i,a=>by simp only [nil_append,fNa.fIb]; split <;> simp_all
 | y::l,i,a=>by
  simp only [List.cons_append,fNa.fIb]
  rw [xy n o l (i + 1) a]
  have e:i + 1 + (l.length:Int) = i + ((y::l).length:Int):=by simp; omega
  rw [e]
  split <;> simp
theorem waits_len (n o:Int):∀ (l:List Int) (i:Int),(fNa.fIb n o l i).length <= l.length
 | [],_=>Nat.le_refl _
 | a::l,i=>by unfold fNa.fIb; have:=waits_len n o l (i + 1); split <;> simp <;> omega
theorem sp_epoch_Waits (x:Ptr) (e:fNa.S) (n:Int):Sp prog jt [pv x,.int .u64 n] cC [fB x e] (fun r=>aB [vI r (fNa.waits e n),fB x e]):=by
 intro h s0
 refine xV _ _ ?_
 unfold qu
 have no:(n < 1\/n > fNa.now e)->fNa.waits e n = []:=fun hh=>if_pos hh
 refine aY (fun k=>?_) (fun k=>?_)
 ·have k':¬ n < 1:=by simpa using k
  refine cW [0] (sV x e) s0 rfl fun r h3 s3=>?_
  obtain ⟨hr,s4⟩:=bt.1 s3
  subst hr
  refine aY (fun k2=>?_) (fun k2=>?_)
  ·rw [no (.inr (by simpa using k2))]
   exact fX s4
  ·have k2':¬ n > fNa.now e:=by simpa using k2
   have e1:fNa.waits e n = fNa.fIb n (e.1.getD (n - 1).toNat 0) e.2 0:=if_neg (by omega)
   rw [e1]
   obtain ⟨b,s,t,rfl,hb,he,hs,ht,st⟩:=ep_op s4
   obtain ⟨m,hm⟩:=eq_ofNat_of_zero_le (show 0 <= n - 1 by omega)
   have hm':m < e.1.length:=by unfold fNa.now at k2'; omega
   have hwu:u64.wrap (n - 1) = m:=by rw [wrapU (by omega) (by omega),hm]
   have hg:e.1.getD (n - 1).toNat 0 = e.1[m]:=by rw [hm]; simp [hm']
   rw [hg]
   refine cL (bp t st (i:=0) rfl rfl rfl ?_)
   refine Lp.intro (fun (z:Sl × Int) h=>∃ k:Nat,z.2 = k/\k <= e.2.length/\aB [vI z.1 (fNa.fIb n e.1[m] (e.2.take k) 0),blk b iy [sv s,sv t],vI s e.1,vU t e.2] h) (fun (z:Sl × Int) _=>e.2.length - z.2.toNat) ⟨0,rfl,Nat.zero_le _,fX st⟩ ?_
   rintro ⟨z,i⟩ h ⟨k3,rfl,hk3,s5⟩
   unfold lz
   refine aY (fun c=>?_) (fun c=>?_)
   ·have hlt:k3 < e.2.length:=by rw [ht] at c; simpa using c
    have hw:i64.wrap ((k3:Int) + 1) = ((k3 + 1:Nat):Int):=by rw [bm (by omega) (by omega)]; rfl
    have htk:e.2.take (k3 + 1) = e.2.take k3++[e.2[k3]]:=by simp
    have hlen:((e.2.take k3).length:Int) = k3:=by simp; omega
    have off:¬ (e.2[k3] < n/\e.1[m] ≠ k3)->dB (fun z' h'=>(∃ k:Nat,z'.2 = k/\k <= e.2.length/\aB [vI z'.1 (fNa.fIb n e.1[m] (e.2.take k) 0),blk b iy [sv s,sv t],vI s e.1,vU t e.2] h')/\e.2.length - z'.2.toNat < e.2.length - (k3:Int).toNat) (z,(k3:Int)) false h:=by
     intro hno
     unfold dB
     refine dO rfl ?_
     rw [hw]
     refine ⟨⟨k3 + 1,rfl,hlt,?_⟩,by simp; omega⟩
     rw [htk,xy,hlen,Int.zero_add,if_neg hno,List.append_nil]
     exact s5
    refine cZ s5 (j:=3) rfl (by omega) (by show (k3:Int) < _; omega) fun q hq=>?_
    refine dz (j:=3) (i:=k3) (k:=0) e.2[k3] (ct _) s5 rfl hq (by simp) (aE hlt) (by simp) ?_
    refine aY (fun c2=>?_) (fun c2=>?_)
    ·have c2':e.2[k3] < n:=by simpa using c2
     refine bp s s5 (i:=1) rfl rfl rfl ?_
     rw [hwu]
     refine cZ s5 (j:=2) rfl (by omega) (by omega) fun q2 hq2=>?_
     refine dz (j:=2) (i:=m) (k:=0) e.1[m] (ct _) s5 rfl hq2 (by simp) (aE hm') (by simp) ?_
     by_cases hne:e.1[m] = (k3:Int)
     ·have:(e.1[m] != (k3:Int)) = false:=by simp [hne]
      show dB _ _ (e.1[m] != (k3:Int)) h
      rw [this]
      exact off (fun hh=>hh.2 hne)
     ·have:(e.1[m] != (k3:Int)) = true:=by simp [hne]
      show dB _ _ (e.1[m] != (k3:Int)) h
      rw [this]
      unfold dB
      refine eD rfl ?_
      refine xw s5 (i:=0) rfl ?_ fun v h' s6=>?_
      ·have:=waits_len n e.1[m] (e.2.take k3) 0; simp at this; omega
      ·rw [hw]
       refine ⟨⟨k3 + 1,rfl,hlt,?_⟩,by simp; omega⟩
       rw [htk,xy,hlen,Int.zero_add,if_pos ⟨c2',hne⟩]
       exact s6
    ·have c2':¬ e.2[k3] < n:=by simpa using c2
     exact off (fun hh=>c2' hh.1)
   ·have:k3 = e.2.length:=by rw [ht] at c; simp at c; omega
    subst this
    rw [take_length] at s5
    exact star_tail s5 fun h6 s6=>ep_cl hb he s6
 ·have k':n < 1:=by simpa using k
  rw [no (.inl k')]
  exact fX s0
theorem sp_epoch_Done (x:Ptr) (e:fNa.S) (n:Int):Sp prog jP [pv x,.int .u64 n] aC [fB x e] (fun r=>pa_ (r = fNa.done e n) [fB x e]):=by
 intro h s0
 refine sim_epoch_Epochs_Done _ _ ?_
 unfold rF
 refine aY (fun k=>?_) (fun k=>?_)
 ·have k':n >= 1:=by simpa using k
  refine cW [0] (sV x e) s0 rfl fun r h3 s3=>?_
  obtain ⟨hr,s4⟩:=bt.1 s3
  subst hr
  refine aY (fun k2=>?_) (fun k2=>?_)
  ·refine cW [0] (sp_epoch_Waits x e n) s4 rfl fun r h5 s5=>?_
   have s6:=dE s5
   have hl:=(cc (j:=0) s6 rfl).1
   refine aZ ?_ (cd (l:=[vI r (fNa.waits e n)]) s6)
   have e1:decide (n >= 1) = true:=k
   have e2:decide (n <= fNa.now e) = true:=k2
   rw [hl]
   unfold fNa.done
   rw [e1,e2]
   cases fNa.waits e n with
   | nil=>rfl
   | cons a l=>simp; omega
  ·exact aZ (by unfold fNa.done; rw [k2]; simp) s4
 ·exact aZ (by unfold fNa.done; rw [k]; rfl) s0
end
section
open Go Mb
def nC (a2:Int) (K:Ptr->Hp->Prop) (Rec10:Int->Hp->Prop) (s9:Int) (q30:Nat × Nat) (s20:Bool):Hp->Prop:=br s20 ( K (some (q30.1,q30.2 + 0 + Int.toNat (a2.tmod 4) * 10 + Int.toNat s9 * 5))) ( Rec10 (i64.wrap (s9 + 1)))
def vW (a0:Ptr) (a1:Int) (a2:Int) (K:Ptr->Hp->Prop) (Rec10:Int->Hp->Prop) (s9:Int):Hp->Prop:=br (decide (s9 < 2)) ( nn a0 fun q30=>gd (0 <= (a2.tmod 4)/\(a2.tmod 4) < 4)<|gd (0 <= s9/\s9 < 2)<|ld (q30.1,q30.2 + 0 + Int.toNat (a2.tmod 4) * 10 + Int.toNat s9 * 5 + 0 + 0) (cI .i64) fun x38=>br (x38 == a1) ( ld (q30.1,q30.2 + 0 + Int.toNat (a2.tmod 4) * 10 + Int.toNat s9 * 5 + 0 + 1) (cI .i64) fun x46=>nC a2 K Rec10 s9 q30 (x46 == a2)) ( nC a2 K Rec10 s9 q30 false)) ( K none)
def sh_tlb_Tlb_at (a0:Ptr) (a1:Int) (a2:Int) (K:Ptr->Hp->Prop):Hp->Prop:=br (((a0.isNone || (decide (a1 < 0))) || (decide (a2 < 0))) || (decide (a2 >= 8))) ( K none) ( Lp (vW a0 a1 a2 K) 0)
theorem sim_tlb_Tlb_at (a0:Ptr) (a1:Int) (a2:Int) {K:Ptr->Hp->Prop} {h:Hp} (H:sh_tlb_Tlb_at a0 a1 a2 K h):cl prog pI [(pv a0),(.int .i64 a1),(.int .i64 a2)] kz K h:=z_i func167 p p fun _=>O<|U p<|am<|O<|M p<|J (cA underlying114 p)<|M p<|W p p (aL _) (fun g1=>wv<|ai p)<|W p p (aL _) (fun g2=>wv<|cj (aG p g2) p)<|J (dy p p)<|M p<|W p p (aL _) (fun g3=>wv<|ai p)<|W p p (aL _) (fun g4=>wv<|cj (aG p g4) p)<|J (dy p p)<|M p<|W p p (aL _) (fun g5=>wv<|ai p)<|W p p (aL _) (fun g6=>wv<|jF (aG p g6) p)<|J (dy p p)<|ae<|ax p H (fun k7 H8=>O<|U p<|aj<|Z ⟨none,p,H8⟩) fun k7 H8=>ap<|am<|O<|M p<|ae<|aw<|bz (step:=vW a0 a1 a2 K) (fun s9=>[(0,(pv a0)),(1,(.int .i64 a1)),(2,(.int .i64 a2)),(23,(.int .i64 s9))]) (fun s9=>[]) H8 (.cons p<|.cons p<|.cons p<|.cons p<|.nil _) .slnil fun Rec10 s9 _ H11=>O<|J (cj p p)<|ae<|am<|ax p H11 (fun k12 H13=>ap<|am<|aw<|O<|M p<|U p<|O<|M p<|M p<|J (v_rem p p (by decide))<|M p<|bK H13 fun q30 e14 H15=>J (aK<|aJ p<|ar e14)<|J (ah tx p)<|iM H15 fun h16 H17=>J (bC arr_171 p p h16)<|iM H17 fun h18 H19=>J (bC arr_170 p p h18)<|U p<|eC (nC a2 K Rec10 s9 q30) (fun s20=>[(0,(pv a0)),(1,(.int .i64 a1)),(2,(.int .i64 a2)),(8,(.pointer (some ⟨q30.1,q30.2 + 0 + Int.toNat (a2.tmod 4) * 10 + Int.toNat s9 * 5,none⟩))),(23,(.int .i64 s9)),(49,(.bool s20))]) (fun s20=>[]) (aq<|M p<|J (aK p)<|J (ah mU p)<|J (ah kg p)<|aa<|aW H19 ba p (fun _=>p) p fun x38 H24=>M p<|J (bP p p)<|M p<|W p p (ay _) (fun g25=>wv<|ai p)<|W p p (ay _) (fun g26=>wv<|aK<|aG p g26)<|W p p (ay _) (fun g27=>wv<|ah mU<|aG p g27)<|W p p (ay _) (fun g28=>wv<|ah nN<|aG p g28)<|bU H24 (fun k30 H31=>G (F k30)<|aW H31 ba (aG p k30) (fun _=>p) p fun x46 H32=>G (F k30)<|z_p (ai p)<|G (F k30)<|z_p (bP p p)<|J (aS p k30 p)<|ae<|cE (x46 == a2) H32 (.cons p<|.cons p<|.cons p<|.cons p<|.cons p<|.cons p<|.nil _) .slnil) fun k30 H31=>Y (aT k30)<|Y (aT k30)<|Y (aT k30)<|J (au p k30 p)<|ae<|cE false H31 (.cons p<|.cons p<|.cons p<|.cons p<|.cons p<|.cons p<|.nil _) .slnil) fun s20 _ H21=>ax p H21 (fun k22 H23=>O<|M p<|U p<|aj<|Z ⟨some (q30.1,q30.2 + 0 + Int.toNat (a2.tmod 4) * 10 + Int.toNat s9 * 5),p,H23⟩) fun k22 H23=>ap<|aq<|J (bk p p)<|M p<|ae<|cF (i64.wrap (s9 + 1)) H23 (.cons p<|.cons p<|.cons p<|.cons p<|.nil _) .slnil) fun k12 H13=>bh<|O<|U p<|aj<|Z ⟨none,p,H13⟩
def wK (a0:Ptr) (a1:Int) (a2:Int) (K:Bool->Hp->Prop):Hp->Prop:=cl prog pI [(pv a0),(.int .i64 a1),(.int .i64 a2)] kz fun r11=>br r11.isNone ( K false) ( nn r11 fun q16=>st (q16.1,q16.2 + 0) (ao.C dR)<|K true)
theorem sim_tlb_Tlb_Flush (a0:Ptr) (a1:Int) (a2:Int) {K:Bool->Hp->Prop} {h:Hp} (H:wK a0 a1 a2 K h):cl prog nT [(pv a0),(.int .i64 a1),(.int .i64 a2)] aC K h:=z_i func117 p p fun _=>O<|U p<|O<|M p<|M p<|M p<|aa<|D H en_167 fun r11 _ H1=>U p<|am<|O<|M p<|J (cA underlying226 p)<|ae<|ax p H1 (fun k2 H3=>O<|U p<|aj<|Z ⟨false,p,H3⟩) fun k2 H3=>ap<|O<|M p<|aa<|cH (vs:=[]) (bv<|yI _) en_152 p p<|bK H3 fun q16 e4 H5=>J (aK<|aJ p<|ar e4)<|J (ah mU p)<|aa<|di fN p p p p p H5 fun _ H6=>ae<|O<|U p<|aj<|Z ⟨true,p,H6⟩
def sh_tlb_Tlb_Find (a0:Ptr) (a1:Int) (a2:Int) (K:(ao × Bool)->Hp->Prop):Hp->Prop:=cl prog pI [(pv a0),(.int .i64 a1),(.int .i64 a2)] kz fun r12=>br r12.isNone ( K ((⟨0,0,0,0⟩:ao),false)) ( nn r12 fun q17=>ld (q17.1,q17.2 + 0) ao.C fun x19=>K (x19,true))
theorem sim_tlb_Tlb_Find (a0:Ptr) (a1:Int) (a2:Int) {K:(ao × Bool)->Hp->Prop} {h:Hp} (H:sh_tlb_Tlb_Find a0 a1 a2 K h):cl prog pJ [(pv a0),(.int .i64 a1),(.int .i64 a2)] fW K h:=z_i func157 p p fun _=>O<|aa<|aO (l:=ao.C (⟨0,0,0,0⟩:ao)) lC p p fun b6=>U p<|O<|M p<|M p<|M p<|aa<|D H en_167 fun r12 _ H1=>U p<|am<|O<|M p<|J (cA underlying226 p)<|ae<|ax p H1 (fun k2 H3=>O<|J (bd (vs:=[]) p my)<|aa<|aQ (k:=0) (vs:=ao.C (⟨0,0,0,0⟩:ao)) fN p p p p p p p<|U p<|aj<|bD (bW p (bG (k:=0) p ip p p)<|cg p) ⟨((⟨0,0,0,0⟩:ao),false),p,H3⟩) fun k2 H3=>ap<|O<|M p<|bK H3 fun q17 e4 H5=>J (aK<|aJ p<|ar e4)<|J (ah mU p)<|aa<|hO H5 ip p (fun _=>p) p fun x19 H6=>aa<|aQ (k:=0) (vs:=ao.C x19) fN p p p p p p p<|U p<|aj<|bD (bW p (bG (k:=0) p ip p p)<|cg p) ⟨(x19,true),p,H6⟩
def rU (a0:Ptr) (a1:Int) (K:Ptr->Hp->Prop) (Rec2:(Ptr × Int)->Hp->Prop) (s1:Ptr × Int):Hp->Prop:=br (decide (s1.2 < 2)) ( nn a0 fun q14=>gd (0 <= a1/\a1 < 4)<|gd (0 <= s1.2/\s1.2 < 2)<|ld (q14.1,q14.2 + 0 + Int.toNat a1 * 10 + Int.toNat s1.2 * 5 + 0 + 0) (cI .i64) fun x22=>br (decide (x22 < 0)) ( K (some (q14.1,q14.2 + 0 + Int.toNat a1 * 10 + Int.toNat s1.2 * 5))) ( br s1.1.isNone ( Rec2 ((some (q14.1,q14.2 + 0 + Int.toNat a1 * 10 + Int.toNat s1.2 * 5)),(i64.wrap (s1.2 + 1)))) ( nn s1.1 fun q33=>ld (q14.1,q14.2 + 0 + Int.toNat a1 * 10 + Int.toNat s1.2 * 5 + 4) (cI .i64) fun x31=>ld (q33.1,q33.2 + 4) (cI .i64) fun x35=>br (decide (x31 < x35)) ( Rec2 ((some (q14.1,q14.2 + 0 + Int.toNat a1 * 10 + Int.toNat s1.2 * 5)),(i64.wrap (s1.2 + 1)))) ( Rec2 (s1.1,(i64.wrap (s1.2 + 1))))))) ( K s1.1)
def sh_tlb_Tlb_room (a0:Ptr) (a1:Int) (K:Ptr->Hp->Prop):Hp->Prop:=Lp (rU a0 a1 K) (none,0)
theorem sim_tlb_Tlb_room (a0:Ptr) (a1:Int) {K:Ptr->Hp->Prop} {h:Hp} (H:sh_tlb_Tlb_room a0 a1 K h):cl prog ub [(pv a0),(.int .i64 a1)] kz K h:=z_i func194 p p fun _=>O<|U p<|O<|U p<|am<|O<|M p<|ae<|aw<|bz (step:=rU a0 a1 K) (fun s1=>[(0,(pv a0)),(1,(.int .i64 a1)),(5,(pv s1.1)),(8,(.int .i64 s1.2))]) (fun s1=>[]) H (.cons p<|.cons p<|.cons p<|.cons p<|.nil _) .slnil fun Rec2 s1 _ H3=>O<|J (cj p p)<|ae<|am<|ax p H3 (fun k4 H5=>ap<|am<|aw<|O<|M p<|U p<|O<|M p<|M p<|M p<|bK H5 fun q14 e6 H7=>J (aK<|aJ p<|ar e6)<|J (ah tx p)<|iM H7 fun h8 H9=>J (bC arr_171 p p h8)<|iM H9 fun h10 H11=>J (bC arr_170 p p h10)<|U p<|am<|O<|M p<|J (aK p)<|J (ah mU p)<|J (ah kg p)<|aa<|aW H11 ba p (fun _=>p) p fun x22 H12=>J (cj p p)<|ae<|ax p H12 (fun k13 H14=>O<|M p<|U p<|aj<|Z ⟨some (q14.1,q14.2 + 0 + Int.toNat a1 * 10 + Int.toNat s1.2 * 5),p,H14⟩) fun k13 H14=>ap<|am<|bn (n:=13) [] ck p .slnil<|V 0 p (ai p)<|V 1 p (cA underlying226 p)<|V 2 p (ai p)<|nt H14 (fun k15 H16=>z_f 3 p (bL k15)<|z_f 4 p (bL k15)<|z_f 5 p (bL k15)<|z_f 6 p (bL k15)<|z_f 7 p (bL k15)<|z_f 8 p (bL k15)<|z_f 9 p (bL k15)<|z_f 10 p (bL k15)<|z_f 11 p (bL k15)<|V 12 p (aS p k15 p)<|aR (by kernel_rfl)<|kL p p<|aq<|M p<|U p<|aq<|J (bk p p)<|M p<|ae<|cF ((some (q14.1,q14.2 + 0 + Int.toNat a1 * 10 + Int.toNat s1.2 * 5)),(i64.wrap (s1.2 + 1))) H16 (.cons p<|.cons p<|.cons p<|.cons p<|.nil _) .slnil) fun k15 H16=>z_n 3 p (F k15) (ve<|ai p)<|z_n 4 p (F k15) (ve<|aK p)<|z_n 5 p (F k15) (ve<|ah fld_169_1 p)<|z_n 7 p (F k15) (ve<|ai p)<|ii H16 fun q33 e17 H18=>z_n 8 p (F k15) (ve<|aK<|aJ p<|ar e17)<|z_n 9 p (F k15) (ve<|ah fld_169_1 p)<|mX (i:=6) (fun _ _ _ _ hh=>hh) H18 p (by kernel_rfl) p p p (F k15) ba p (fun _=>p) p fun x31 H19=>mX (i:=10) (fun _ _ _ _ hh=>hh) H19 p (by kernel_rfl) p p p (F k15) ba p (fun _=>p) p fun x35 H20=>z_n 11 p (F k15) (ve<|cj p p)<|V 12 p (au p k15 p)<|aR (by kernel_rfl)<|ax p H20 (fun k21 H22=>aq<|M p<|U p<|aq<|J (bk p p)<|M p<|ae<|cF ((some (q14.1,q14.2 + 0 + Int.toNat a1 * 10 + Int.toNat s1.2 * 5)),(i64.wrap (s1.2 + 1))) H22 (.cons p<|.cons p<|.cons p<|.cons p<|.nil _) .slnil) fun k21 H22=>ap<|aq<|J (bk p p)<|M p<|ae<|cF (s1.1,(i64.wrap (s1.2 + 1))) H22 (.cons p<|.cons p<|.cons p<|.cons p<|.nil _) .slnil) fun k4 H5=>bh<|O<|M p<|U p<|aj<|Z ⟨s1.1,p,H5⟩
def kQ (a0:Ptr) (a1:ao) (K:Bool->Hp->Prop) (s24:Ptr):Hp->Prop:=nn a0 fun q60=>ld (q60.1,q60.2 + 40) (cI .i64) fun x62=>st (q60.1,q60.2 + 40) [.int .i64 (i64.wrap (x62 + 1))]<|ld (q60.1,q60.2 + 40) (cI .i64) fun x71=>nn s24 fun q73=>st (q73.1,q73.2) (cu.C (⟨a1,x71⟩:cu))<|K true
def sh_tlb_Tlb_Fill (a0:Ptr) (a1:ao) (K:Bool->Hp->Prop):Hp->Prop:=br ((a0.isNone || ((((((decide (a1.fCa < 0)) || (decide (a1.fCa >= 4))) || (decide (a1.fPa < 0))) || (decide (a1.fPa >= 8))) || (decide (a1.fEa < 0))) || (decide (a1.fEa >= 16)))) || (!(ci a1.fBa))) ( K false) ( cl prog pI [(pv a0),(.int .i64 a1.fCa),(.int .i64 a1.fPa)] kz fun r51=>br r51.isNone ( cl prog ub [(pv a0),(.int .i64 (a1.fPa.tmod 4))] kz fun r58=>kQ a0 a1 K r58) ( kQ a0 a1 K r51))
theorem sim_tlb_Tlb_Fill (a0:Ptr) (a1:ao) {K:Bool->Hp->Prop} {h:Hp} (H:sh_tlb_Tlb_Fill a0 a1 K h):cl prog pK [(pv a0),(.agg (ao.C a1).toArray)] aC K h:=z_i func159 p p fun _=>O<|aa<|cD (l:=ao.C a1) p p p fun b3=>U p<|O<|J (ah kg p)<|bi (bc (k:=0) ba p p p) p<|J (cj p p)<|M p<|W p p (aL _) (fun g1=>wv<|ah kg p)<|W p p (aL _) (fun g2=>cv<|bc (k:=0) ba (aG p g2) p p)<|W p p (aL _) (fun g3=>wv<|jF (aG p g3) p)<|J (dy p p)<|M p<|W p p (aL _) (fun g4=>wv<|ah nN p)<|W p p (aL _) (fun g5=>cv<|bc (k:=0) ba (aG p g5) p p)<|W p p (aL _) (fun g6=>wv<|cj (aG p g6) p)<|J (dy p p)<|M p<|W p p (aL _) (fun g7=>wv<|ah nN p)<|W p p (aL _) (fun g8=>cv<|bc (k:=0) ba (aG p g8) p p)<|W p p (aL _) (fun g9=>wv<|jF (aG p g9) p)<|J (dy p p)<|M p<|W p p (aL _) (fun g10=>wv<|ah ms p)<|W p p (aL _) (fun g11=>cv<|bc (k:=0) ba (aG p g11) p p)<|W p p (aL _) (fun g12=>wv<|cj (aG p g12) p)<|J (dy p p)<|M p<|W p p (aL _) (fun g13=>wv<|ah ms p)<|W p p (aL _) (fun g14=>cv<|bc (k:=0) ba (aG p g14) p p)<|W p p (aL _) (fun g15=>wv<|jF (aG p g15) p)<|J (dy p p)<|U p<|am<|O<|M p<|J (cA underlying114 p)<|M p<|W p p (aL _) (fun g16=>wv<|ai p)<|J (dy p p)<|M p<|W p p (aL _) (fun g17=>wv<|ah rN p)<|W p p (aL _) (fun g18=>cv<|bc (k:=0) ba (aG p g18) p p)<|dh (vs:=[(.int .i64 a1.fBa)]) p p p (aL _) (fun g19=>bv<|ra a1.fBa _) en_166 (fun g19=>aU (aG p g19) bX) p<|W p p (aL _) (fun g20=>wv<|cy<|aG p g20)<|J (dy p p)<|ae<|ax p H (fun k21 H22=>O<|U p<|aj<|Z ⟨false,p,H22⟩) fun k21 H22=>ap<|O<|M p<|J (ah kg p)<|bi (bc (k:=0) ba p p p) p<|J (ah nN p)<|bi (bc (k:=0) ba p p p) p<|aa<|D H22 en_167 fun r51 _ H23=>U p<|eC (kQ a0 a1 K) (fun s24=>[(0,(pv a0)),(3,(.pointer (some ⟨b3,0,none⟩))),(6,(pv s24))]) (fun s24=>[bx b3 54 (ao.C a1)]) (O<|M p<|J (cA underlying226 p)<|ae<|ax p H23 (fun k34 H35=>aq<|M p<|J (ah nN p)<|bi (bc (k:=0) ba p p p) p<|J (v_rem p p (by decide))<|aa<|D H35 en_194 fun r58 _ H36=>U p<|cE r58 H36 (.cons p<|.cons p<|.cons p<|.nil _)<|.cons_cons _ .slnil) fun k34 H35=>ap<|cE r51 H35 (.cons p<|.cons p<|.cons p<|.nil _)<|.cons_cons _ .slnil) fun s24 _ H25=>O<|M p<|bK H25 fun q60 e26 H27=>J (aK<|aJ p<|ar e26)<|J (ah fld_173_1 p)<|aa<|aW H27 ba p (fun _=>p) p fun x62 H28=>J (bk p p)<|J (aK<|aJ p<|ar e26)<|J (ah fld_173_1 p)<|aa<|di lL p p p p p H28 fun _ H29=>ae<|am<|bn (n:=9) [bx b3 54 (ao.C a1)] ck p (.cons_cons _ .slnil)<|V 0 p (ai p)<|z_E 1 p (eP (k:=0) ip p p p p)<|V 2 p (ai<|aJ p<|ar e26)<|V 3 p (aK p)<|V 4 p (ah fld_173_1 p)<|bA (i:=5) (fun _ _ _ _ hh=>hh) H29 p (by kernel_rfl) ba p (fun _=>p) p fun x71 H30=>V 6 p (bd p<|build_169_0_1 a1 x71)<|ii H30 fun q73 e31 H32=>V 7 p (aK<|aJ p<|ar e31)<|I 8 p<|di inf_169 p p p p p H32 fun _ H33=>⟨.cons_cons _ .slnil,aR (by kernel_rfl)<|O<|U p<|aj<|Z ⟨true,p,H33⟩⟩
def qC (Rec4:(Sl × Int)->Hp->Prop) (s3:Sl × Int) (x17:jD) (Rec14:(Sl × Int)->Hp->Prop) (s13:Sl × Int):Hp->Prop:=br (decide (s13.2 < 2)) ( hpv prog (Instr.index t_2_tlb_line (.agg (jD.C x17).toArray) (.int .i64 s13.2)) R_tlb_line fun (v20:cu)=>hpv prog (Instr.buildSlice ru 1 #[(0,(.agg (ao.C v20.fl).toArray))]) rR fun (v24:Sl)=>hpv prog (Builtin.append_ #[ru,ru] ru #[(sv s13.1),(sv v24)]) rR fun (v25:Sl)=>Rec14 (v25,(i64.wrap (s13.2 + 1)))) ( Rec4 (s13.1,(i64.wrap (s3.2 + 1))))
def qD (a0:Ptr) (K:Sl->Hp->Prop) (Rec4:(Sl × Int)->Hp->Prop) (s3:Sl × Int):Hp->Prop:=br (decide (s3.2 < 4)) ( nn a0 fun q14=>gd (0 <= s3.2/\s3.2 < 4)<|ld (q14.1,q14.2 + 0 + Int.toNat s3.2 * 10) jD.C fun x17=>Lp (qC Rec4 s3 x17) (s3.1,0)) ( K s3.1)
def wJ (a0:Ptr) (K:Sl->Hp->Prop):Hp->Prop:=br a0.isNone ( K (⟨none,0,0,none⟩:Sl)) ( Lp (qD a0 K) ((⟨none,0,0,none⟩:Sl),0))
theorem sim_tlb_Tlb_Lines (a0:Ptr) {K:Sl->Hp->Prop} {h:Hp} (H:wJ a0 K h):cl prog rY [(pv a0)] rR K h:=z_i func87 p p fun _=>O<|U p<|am<|O<|M p<|J (cA underlying114 p)<|ae<|ax p H (fun k1 H2=>O<|U p<|aj<|Z ⟨(⟨none,0,0,none⟩:Sl),p,H2⟩) fun k1 H2=>ap<|O<|U p<|am<|O<|M p<|ae<|aw<|bz (step:=qD a0 K) (fun s3=>[(0,(pv a0)),(3,(sv s3.1)),(9,(.int .i64 s3.2))]) (fun s3=>[]) H2 (.cons p<|.cons p<|.cons p<|.nil _) .slnil fun Rec4 s3 _ H5=>O<|J (cj p p)<|ae<|am<|ax p H5 (fun k6 H7=>ap<|am<|aw<|O<|M p<|U p<|O<|M p<|M p<|bK H7 fun q14 e8 H9=>J (aK<|aJ p<|ar e8)<|J (ah tx p)<|iM H9 fun h10 H11=>J (bC arr_171 p p h10)<|aa<|hO H11 ag_170 p (fun _=>p) p fun x17 H12=>M p<|ae<|aw<|bz (step:=qC Rec4 s3 x17) (fun s13=>[(0,(pv a0)),(3,(sv s13.1)),(9,(.int .i64 s3.2)),(17,(.agg (jD.C x17).toArray)),(18,(.int .i64 s13.2))]) (fun s13=>[]) H12 (.cons p<|.cons p<|.cons p<|.cons p<|.cons p<|.nil _) .slnil fun Rec14 s13 _ H15=>O<|J (cj p p)<|ae<|am<|ax p H15 (fun k16 H17=>ap<|am<|aw<|O<|aa<|aV H17 (x_index p p) p fun v20 _ H18=>aa<|aO (l:=cu.C (⟨(⟨0,0,0,0⟩:ao),0⟩:cu)) zero_169 p p fun b6=>aa<|aQ (k:=0) (vs:=cu.C v20) inf_169 p p p p p p p<|ae<|aq<|M p<|J (ah mU p)<|bi (bH (k:=0) ip p p p p) p<|aa<|aV H18 (bE (vs:=[(.agg (ao.C v20.fl).toArray)]) p) p fun v24 _ H19=>aa<|aV H19 (dT p p) p fun v25 _ H20=>U p<|aq<|J (bk p p)<|M p<|ae<|cF (v25,(i64.wrap (s13.2 + 1))) H20 (.cons p<|.cons p<|.cons p<|.cons p<|.cons p<|.nil _)<|.cons _ .slnil) fun k16 H17=>bh<|aq<|J (bk p p)<|M p<|ae<|cF (s13.1,(i64.wrap (s3.2 + 1))) H17 (.cons p<|.cons p<|.cons p<|.nil _) .slnil) fun k6 H7=>bh<|O<|M p<|U p<|aj<|Z ⟨s3.1,p,H7⟩
def qE (a0:Ptr) (Rec4:Int->Hp->Prop) (s3:Int) (Rec9:Int->Hp->Prop) (s8:Int):Hp->Prop:=br (decide (s8 < 2)) ( nn a0 fun q16=>gd (0 <= s3/\s3 < 4)<|gd (0 <= s8/\s8 < 2)<|st (q16.1,q16.2 + 0 + Int.toNat s3 * 10 + Int.toNat s8 * 5 + 0) (ao.C dR)<|Rec9 (i64.wrap (s8 + 1))) ( Rec4 (i64.wrap (s3 + 1)))
def qF (a0:Ptr) (K:Unit->Hp->Prop) (Rec4:Int->Hp->Prop) (s3:Int):Hp->Prop:=br (decide (s3 < 4)) ( Lp (qE a0 Rec4 s3) 0) ( K ())
def wM (a0:Ptr) (K:Unit->Hp->Prop):Hp->Prop:=br a0.isNone ( K ()) ( Lp (qF a0 K) 0)
theorem sim_tlb_Tlb_Clear (a0:Ptr) {K:Unit->Hp->Prop} {h:Hp} (H:wM a0 K h):cl prog sc [(pv a0)] R_ K h:=z_i func108 p p fun _=>am<|O<|M p<|J (cA underlying114 p)<|ae<|ax p H (fun k1 H2=>aj<|bD (wV p) ⟨(),p,H2⟩) fun k1 H2=>ap<|O<|M p<|ae<|aw<|bz (step:=qF a0 K) (fun s3=>[(0,(pv a0)),(6,(.int .i64 s3))]) (fun s3=>[]) H2 (.cons p<|.cons p<|.nil _) .slnil fun Rec4 s3 _ H5=>O<|J (cj p p)<|ae<|am<|ax p H5 (fun k6 H7=>ap<|am<|aw<|O<|M p<|U p<|O<|M p<|ae<|aw<|bz (step:=qE a0 Rec4 s3) (fun s8=>[(0,(pv a0)),(2,(.int .i64 s3)),(6,(.int .i64 s3)),(9,(.int .i64 s8))]) (fun s8=>[]) H7 (.cons p<|.cons p<|.cons p<|.cons p<|.nil _) .slnil fun Rec9 s8 _ H10=>O<|J (cj p p)<|ae<|am<|ax p H10 (fun k11 H12=>ap<|am<|aw<|O<|M p<|U p<|bn (n:=10) [] ck p .slnil<|V 0 p (ai p)<|V 1 p (ai p)<|V 2 p (ai p)<|ii H12 fun q16 e13 H14=>V 4 p (aK<|aJ p<|ar e13)<|V 5 p (ah tx p)<|eva_gd H14 fun h15 H16=>V 6 p (bC arr_171 p p h15)<|I 3 p<|cH (vs:=[]) (bv<|yI _) en_152 p p ⟨.slnil,eva_gd H16 fun h17 H18=>V 7 p (bC arr_170 p p h17)<|V 8 p (ah mU p)<|I 9 p<|di fN p p p p p H18 fun _ H19=>⟨.slnil,aR (by kernel_rfl)<|aq<|J (bk p p)<|M p<|ae<|cF (i64.wrap (s8 + 1)) H19 (.cons p<|.cons p<|.cons p<|.cons p<|.nil _) .slnil⟩⟩) fun k11 H12=>bh<|aq<|J (bk p p)<|M p<|ae<|cF (i64.wrap (s3 + 1)) H12 (.cons p<|.cons p<|.nil _) .slnil) fun k6 H7=>bh<|end_i (wV p) ⟨(),p,H7⟩
def sh_tlb_New (K:Ptr->Hp->Prop):Hp->Prop:=hpv prog (Instr.build qG #[]) encL fun (v2:(List Value))=>nw qG v2 fun b3=>cl prog sc [(.pointer (some ⟨b3,0,none⟩))] R_ fun (_:Unit)=>K (some (b3,0))
theorem sim_tlb_New {K:Ptr->Hp->Prop} {h:Hp} (H:sh_tlb_New K h):cl prog jf [] gT K h:=z_i func59 p p fun _=>O<|U p<|O<|aa<|aV H (x_build (vs:=[]) p) p fun v2 _ H1=>aa<|iw p p p H1 fun b3 _ H2=>U p<|O<|M p<|aa<|D H2 en_108 fun r5 _ H3=>ae<|O<|M p<|U p<|aj<|Z ⟨some (b3,0),p,H3⟩
def wL (a0:Ptr) (a1:Int) (a2:Int) (K:Bool->Hp->Prop):Hp->Prop:=br (!((((a0.isNone || (decide (a1 < 0))) || (decide (a1 >= 4))) || (decide (a2 < 0))) || (decide (a2 >= 2)))) ( nn a0 fun q29=>gd (0 <= a1/\a1 < 4)<|gd (0 <= a2/\a2 < 2)<|ld (q29.1,q29.2 + 0 + Int.toNat a1 * 10 + Int.toNat a2 * 5 + 0 + 0) (cI .i64) fun x35=>br (decide (x35 < 0)) ( K false) ( st (q29.1,q29.2 + 0 + Int.toNat a1 * 10 + Int.toNat a2 * 5 + 0) (ao.C dR)<|K true)) ( K false)
theorem sim_tlb_Tlb_Evict (a0:Ptr) (a1:Int) (a2:Int) {K:Bool->Hp->Prop} {h:Hp} (H:wL a0 a1 a2 K h):cl prog rZ [(pv a0),(.int .i64 a1),(.int .i64 a2)] aC K h:=z_i func109 p p fun _=>O<|U p<|am<|O<|M p<|J (cA underlying114 p)<|M p<|W p p (aL _) (fun g1=>wv<|ai p)<|W p p (aL _) (fun g2=>wv<|cj (aG p g2) p)<|J (dy p p)<|M p<|W p p (aL _) (fun g3=>wv<|ai p)<|W p p (aL _) (fun g4=>wv<|jF (aG p g4) p)<|J (dy p p)<|M p<|W p p (aL _) (fun g5=>wv<|ai p)<|W p p (aL _) (fun g6=>wv<|cj (aG p g6) p)<|J (dy p p)<|M p<|W p p (aL _) (fun g7=>wv<|ai p)<|W p p (aL _) (fun g8=>wv<|jF (aG p g8) p)<|J (dy p p)<|M p<|W p p (aL _) (fun g9=>wv<|ai p)<|W p p (aL _) (fun g10=>wv<|ai p)<|W p p (aL _) (fun g11=>wv<|ai p)<|bU H (fun k13 H14=>bK H14 fun q29 e15 H16=>G (F<|bO k13)<|z_p (aK<|aJ (aG p k13)<|ar e15)<|G (F<|bO k13)<|z_p (ah tx p)<|iM H16 fun h17 H18=>G (F<|bO k13)<|z_p (bC arr_171 p (aG p k13) h17)<|iM H18 fun h19 H20=>G (F<|bO k13)<|z_p (bC arr_170 p (aG p k13) h19)<|G (F<|bO k13)<|z_p (ah mU p)<|G (F<|bO k13)<|z_p (ah kg p)<|G (F<|bO k13)<|aW H20 ba p (fun _=>p) p fun x35 H21=>G (F<|bO k13)<|z_p (cj p p)<|J (au p (bO k13) p)<|ae<|ax p H21 (fun k22 H23=>O<|U p<|aj<|Z ⟨false,p,H23⟩) fun k22 H23=>ap<|am<|bn (n:=10) [] ck p .slnil<|V 0 p (ai<|aJ p<|ar e15)<|V 1 p (ai p)<|V 2 p (ai p)<|V 4 p (aK p)<|V 5 p (ah tx p)<|V 6 p (bC arr_171 p p h17)<|I 3 p<|cH (vs:=[]) (bv<|yI _) en_152 p p ⟨.slnil,V 7 p (bC arr_170 p p h19)<|V 8 p (ah mU p)<|I 9 p<|di fN p p p p p H23 fun _ H24=>⟨.slnil,aR (by kernel_rfl)<|O<|U p<|aj<|Z ⟨true,p,H24⟩⟩⟩) fun k13 H14=>Y (bL<|bq k13)<|Y (bL<|bq k13)<|Y (bL<|bq k13)<|Y (bL<|bq k13)<|Y (bL<|bq k13)<|Y (bL<|bq k13)<|Y (bL<|bq k13)<|Y (bL<|bq k13)<|J (aS p (bq k13) p)<|ae<|kL p p<|O<|U p<|aj<|Z ⟨false,p,H14⟩
end
section
open Go Mb
abbrev TL:=cu
theorem iW (p:TL):p.C.length = 5:=rfl
def fG (x:Ptr) (t:List TL × Int):As:=fun h=>∃ b:Nat,(x = some (b,0)/\t.1.length = 8)/\aB [blk b qG ([]++(t.1.flatMap cu.C++[.int .i64 t.2]))] h
theorem nZ {x:Ptr} {t:List TL × Int} {l:List As} {h:Hp} (s0:aB (fG x t::l) h):∃ b,x = some (b,0)/\t.1.length = 8/\aB (blk b qG ([]++(t.1.flatMap cu.C++[.int .i64 t.2]))::l) h:=by
 obtain ⟨b,⟨hx,hb⟩,st⟩:=op_ s0
 exact ⟨b,hx,hb,st⟩
theorem qB {b:Nat} {t:List TL × Int} {l:List As} {h:Hp} (hb:t.1.length = 8) (st:aB (blk b qG ([]++(t.1.flatMap cu.C++[.int .i64 t.2]))::l) h):aB (fG (some (b,0)) t::l) h:=cl_ b ⟨rfl,hb⟩ st
namespace Tlb
abbrev line0:TL:=⟨⟨0,0,0,0⟩,0⟩
def ln (ls:List TL) (n:Nat):TL:=ls.getD n line0
def hit (ls:List TL) (e p:Int) (n:Nat):Prop:=(ln ls n).fl.fCa = e/\(ln ls n).fl.fPa = p
instance (ls:List TL) (e p:Int) (n:Nat):Decidable (hit ls e p n):=by unfold hit; infer_instance
def at_ (ls:List TL) (e p:Int):Option Nat :=
 if e < 0\/p < 0\/p >= 8 then none
 else if hit ls e p ((p.tmod 4).toNat * 2) then some ((p.tmod 4).toNat * 2) else if hit ls e p ((p.tmod 4).toNat * 2 + 1) then some ((p.tmod 4).toNat * 2 + 1) else none
def find (ls:List TL) (e p:Int):ao × Bool:=match at_ ls e p with | some n=>((ln ls n).fl,true) | none=>(⟨0,0,0,0⟩,false)
def flush (t:List TL × Int) (e p:Int):Bool × List TL × Int:=match at_ t.1 e p with | some n=>(true,t.1.set n { ln t.1 n with fl:=dR },t.2) | none=>(false,t)
def evict (t:List TL × Int) (s w:Int):Bool × List TL × Int :=
 if s < 0\/s >= 4\/w < 0\/w >= 2 then (false,t) else if (ln t.1 (s.toNat * 2 + w.toNat)).fl.fCa < 0 then (false,t) else (true,t.1.set (s.toNat * 2 + w.toNat) { ln t.1 (s.toNat * 2 + w.toNat) with fl:=dR },t.2)
theorem at_lt {ls:List TL} {e p:Int} {n:Nat} (h:at_ ls e p = some n):n < 8:=by
 unfold at_ at h
 split at h
 ·cases h
 ·rename_i h0
  have:(p.tmod 4).toNat < 4:=by
   obtain ⟨q,rfl⟩:=eq_ofNat_of_zero_le (show 0 <= p by omega)
   rw [show ((4:Int)) = ((4:Nat):Int) from rfl,← Int.ofNat_tmod]
   simp; omega
  split at h
  ·cases h; omega
  ·split at h
   ·cases h; omega
   ·cases h
end Tlb
def yq (b:Nat) (o:Option Nat):Ptr:=o.map fun n=>(b,n * 5)
theorem ln_get {ls:List TL} {n:Nat} (h:n < ls.length):Tlb.ln ls n = ls[n]:=by simp [Tlb.ln,h]
theorem sp_tlb_at (b:Nat) (t:List TL × Int) (e p:Int) (hb:t.1.length = 8):Sp prog pI [pv (some (b,0)),.int .i64 e,.int .i64 p] kz [fG (some (b,0)) t] (fun r=>pa_ (r = yq b (Tlb.at_ t.1 e p)) [fG (some (b,0)) t]):=by
 intro h s0
 obtain ⟨b',hb',_,st⟩:=nZ s0
 cases hb'
 refine sim_tlb_Tlb_at _ _ _ ?_
 unfold sh_tlb_Tlb_at
 refine aY (fun k=>?_) (fun k=>?_)
 ·have k':e < 0\/p < 0\/p >= 8:=by simpa [or_assoc] using k
  have e1:Tlb.at_ t.1 e p = none:=if_pos k'
  rw [e1]
  exact aZ rfl (qB hb st)
 ·have k':¬ (e < 0\/p < 0\/p >= 8):=by simp at k; omega
  obtain ⟨q,rfl⟩:=eq_ofNat_of_zero_le (show 0 <= p by omega)
  have hm:((q:Int).tmod 4) = ((q % 4:Nat):Int):=by rw [show ((4:Int)) = ((4:Nat):Int) from rfl,← Int.ofNat_tmod]
  have hq4:q % 4 < 4:=Nat.mod_lt _ (by omega)
  have e1:Tlb.at_ t.1 e q = if Tlb.hit t.1 e q (q % 4 * 2) then some (q % 4 * 2) else if Tlb.hit t.1 e q (q % 4 * 2 + 1) then some (q % 4 * 2 + 1) else none:=by
   unfold Tlb.at_; rw [if_neg k',hm,Int.toNat_natCast]
  refine Lp.intro (fun (w:Int) h=>∃ n:Nat,w = n/\n <= 2/\(∀ m,m < n->¬ Tlb.hit t.1 e q (q % 4 * 2 + m))/\aB [fG (some (b,0)) t] h) (fun (w:Int) _=>2 - w.toNat) ⟨0,rfl,by omega,by intro m hm; omega,qB hb st⟩ ?_
  rintro w h ⟨n,rfl,hn,hno,s1⟩
  unfold vW
  refine aY (fun k2=>?_) (fun k2=>?_)
  ·have hlt:n < 2:=by have:=of_decide_eq_true k2; omega
   obtain ⟨b',hb',_,s2⟩:=nZ s1
   cases hb'
   have hi:q % 4 * 2 + n < t.1.length:=by rw [hb]; omega
   have hw:i64.wrap ((n:Int) + 1) = ((n + 1:Nat):Int):=by rw [bm (by omega) (by omega)]; rfl
   rw [hm]
   refine cL ⟨⟨by omega,by omega⟩,⟨by omega,by omega⟩,?_⟩
   have next:¬ Tlb.hit t.1 e q (q % 4 * 2 + n)->∀ h,aB [fG (some (b,0)) t] h ->
     (∃ m:Nat,i64.wrap ((n:Int) + 1) = m/\m <= 2/\(∀ k,k < m->¬ Tlb.hit t.1 e q (q % 4 * 2 + k))/\aB [fG (some (b,0)) t] h)/\2 - (i64.wrap ((n:Int) + 1)).toNat < 2 - (n:Int).toNat:=by
    intro hnot h s
    rw [hw]
    refine ⟨⟨n + 1,rfl,hlt,fun k hk=>?_,s⟩,by simp; omega⟩
    by_cases hkn:k = n
    ·subst hkn; exact hnot
    ·exact hno k (by omega)
   refine ld_a (j:=0) (i:=q % 4 * 2 + n) (k:=0) t.1[q % 4 * 2 + n].fl.fCa iW s2 rfl (by simp; omega) (aE hi) (c1 rfl rfl) ?_
   refine aY (fun k3=>?_) (fun k3=>?_)
   ·refine ld_a (j:=0) (i:=q % 4 * 2 + n) (k:=1) t.1[q % 4 * 2 + n].fl.fPa iW s2 rfl (by simp; omega) (aE hi) (c1 rfl rfl) ?_
    unfold nC
    refine aY (fun k4=>?_) (fun k4=>?_)
    ·have hh:Tlb.hit t.1 e q (q % 4 * 2 + n):=by
      unfold Tlb.hit; rw [ln_get hi]; exact ⟨by simpa using k3,by simpa using k4⟩
     refine aZ ?_ s1
     rw [e1]
     have hn01:n = 0\/n = 1:=by omega
     rcases hn01 with rfl | rfl
     ·rw [add_zero] at hh; rw [if_pos hh]; simp [yq,hm]; omega
     ·have:=hno 0 (by omega); rw [add_zero] at this; rw [if_neg this,if_pos hh]; simp [yq,hm]; omega
    ·exact next (by unfold Tlb.hit; rw [ln_get hi]; intro hh; simp [hh.2] at k4) h s1
   ·unfold nC
    refine dO rfl ?_
    exact next (by unfold Tlb.hit; rw [ln_get hi]; intro hh; simp [hh.1] at k3) h s1
  ·have hn2:n = 2:=by have:=of_decide_eq_false k2; omega
   subst hn2
   refine aZ ?_ s1
   have h0:=hno 0 (by omega)
   have h1:=hno 1 (by omega)
   rw [add_zero] at h0
   rw [e1,if_neg h0,if_neg h1]
   rfl
theorem sp_tlb_Find (x:Ptr) (t:List TL × Int) (e p:Int):Sp prog pJ [pv x,.int .i64 e,.int .i64 p] fW [fG x t] (fun r=>pa_ (r = Tlb.find t.1 e p) [fG x t]):=by
 intro h s0
 obtain ⟨b,rfl,hb,st⟩:=nZ s0
 refine sim_tlb_Tlb_Find _ _ _ ?_
 unfold sh_tlb_Tlb_Find
 refine cW [0] (sp_tlb_at b t e p hb) s0 rfl fun r h' s1=>?_
 obtain ⟨hr,s2⟩:=bt.1 s1
 unfold Tlb.find
 cases ho:Tlb.at_ t.1 e p with
 | none =>
  rw [ho] at hr; subst hr
  exact eD rfl (aZ rfl s2)
 | some n =>
  rw [ho] at hr; subst hr
  have hn:n < t.1.length:=by rw [hb]; exact Tlb.at_lt ho
  obtain ⟨b',hb',_,s3⟩:=nZ s2
  cases hb'
  refine dO rfl (cL ?_)
  refine ld_a (j:=0) (i:=n) (k:=0) t.1[n].fl iW s3 rfl (by simp) (aE hn) ?_ ?_
  ·intro m v hv
   rw [Nat.zero_add]
   have:m < 4:=(List.getElem?_eq_some_iff.1 hv).1
   match m,this with
   | 0,_=>exact hv
   | 1,_=>exact hv
   | 2,_=>exact hv
   | 3,_=>exact hv
  ·refine aZ ?_ (qB hb s3)
   show _ = ((Tlb.ln t.1 n).fl,true)
   rw [ln_get hn]
theorem sp_tlb_Flush (x:Ptr) (t:List TL × Int) (e p:Int):Sp prog nT [pv x,.int .i64 e,.int .i64 p] aC [fG x t] (fun r=>pa_ (r = (Tlb.flush t e p).1) [fG x (Tlb.flush t e p).2]):=by
 intro h s0
 obtain ⟨b,rfl,hb,st⟩:=nZ s0
 refine sim_tlb_Tlb_Flush _ _ _ ?_
 unfold wK
 refine cW [0] (sp_tlb_at b t e p hb) s0 rfl fun r h' s1=>?_
 obtain ⟨hr,s2⟩:=bt.1 s1
 cases ho:Tlb.at_ t.1 e p with
 | none =>
  rw [ho] at hr; subst hr
  have e1:Tlb.flush t e p = (false,t):=by unfold Tlb.flush; rw [ho]
  rw [e1]
  exact eD rfl (aZ rfl s2)
 | some n =>
  rw [ho] at hr; subst hr
  have hn:n < t.1.length:=by rw [hb]; exact Tlb.at_lt ho
  have e1:Tlb.flush t e p = (true,t.1.set n { t.1[n] with fl:=dR },t.2):=by unfold Tlb.flush; rw [ho,← ln_get hn]
  rw [e1]
  obtain ⟨b',hb',_,s3⟩:=nZ s2
  cases hb'
  refine dO rfl (cL ?_)
  refine st_a (j:=0) (i:=n) (k:=0) { t.1[n] with fl:=dR } iW s3 rfl (by simp) (aE hn) (by simp [ao.C]) rfl fun h2 s4=>?_
  exact aZ rfl (qB (t:=(t.1.set n { t.1[n] with fl:=dR },t.2)) (by simpa using hb) s4)
namespace Tlb
def room (ls:List TL) (a:Nat):Nat :=
 if (ln ls a).fl.fCa < 0 then a else if (ln ls (a + 1)).fl.fCa < 0 then a + 1 else if (ln ls (a + 1)).fwhen < (ln ls a).fwhen then a + 1 else a
end Tlb
theorem sp_tlb_room (b:Nat) (t:List TL × Int) (s:Nat) (hs:s < 4) (hb:t.1.length = 8):Sp prog ub [pv (some (b,0)),.int .i64 s] kz [fG (some (b,0)) t] (fun r=>pa_ (r = yq b (some (Tlb.room t.1 (s * 2)))) [fG (some (b,0)) t]):=by
 intro h s0
 refine sim_tlb_Tlb_room _ _ ?_
 unfold sh_tlb_Tlb_room
 have w1:i64.wrap (((0:Nat):Int) + 1) = 1:=by rw [bm (by omega) (by omega)]; rfl
 have w2:i64.wrap ((1:Int) + 1) = 2:=by rw [bm (by omega) (by omega)]; rfl
 have h0:s * 2 < t.1.length:=by omega
 have h1:s * 2 + 1 < t.1.length:=by omega
 have l0:=ln_get h0
 have l1:=ln_get h1
 refine Lp.intro (fun (z:Ptr × Int) h=>((z = (none,0))\/(z = (some (b,s * 2 * 5),1)/\¬ (t.1[s * 2]).fl.fCa < 0)\/(z.2 = 2/\z.1 = yq b (some (Tlb.room t.1 (s * 2)))))/\aB [fG (some (b,0)) t] h) (fun (z:Ptr × Int) _=>2 - z.2.toNat) ⟨.inl rfl,s0⟩ ?_
 rintro ⟨z,i⟩ h ⟨hz,s1⟩
 obtain ⟨b',hb',_,s2⟩:=nZ s1
 cases hb'
 unfold rU
 rcases hz with hz | ⟨hz,hne⟩ | ⟨hz1,hz2⟩
 ·cases hz
  refine eD rfl (cL ⟨⟨by omega,by omega⟩,⟨by omega,by omega⟩,?_⟩)
  refine ld_a (j:=0) (i:=s * 2) (k:=0) t.1[s * 2].fl.fCa iW s2 rfl (by simp; omega) (aE h0) (c1 rfl rfl) ?_
  refine aY (fun k=>?_) (fun k=>?_)
  ·have k':t.1[s * 2].fl.fCa < 0:=by simpa using k
   refine aZ ?_ s1
   unfold Tlb.room
   rw [l0,if_pos k']
   simp [yq]; omega
  ·have k':¬ t.1[s * 2].fl.fCa < 0:=by simpa using k
   refine eD rfl ?_
   refine ⟨⟨.inr (.inl ⟨?_,k'⟩),s1⟩,?_⟩
   ·show (some (b,0 + 0 + (s:Int).toNat * 10 + (0:Int).toNat * 5),i64.wrap ((0:Int) + 1)) = _
    have:i64.wrap ((0:Int) + 1) = 1:=w1
    rw [this]
    simp; omega
   ·have:i64.wrap ((0:Int) + 1) = 1:=w1
    show 2 - (i64.wrap ((0:Int) + 1)).toNat < _
    rw [this]; decide
 ·cases hz
  refine eD rfl (cL ⟨⟨by omega,by omega⟩,⟨by omega,by omega⟩,?_⟩)
  refine ld_a (j:=0) (i:=s * 2 + 1) (k:=0) t.1[s * 2 + 1].fl.fCa iW s2 rfl (by simp; omega) (aE h1) (c1 rfl rfl) ?_
  refine aY (fun k=>?_) (fun k=>?_)
  ·have k':t.1[s * 2 + 1].fl.fCa < 0:=by simpa using k
   refine aZ ?_ s1
   unfold Tlb.room
   rw [l0,l1,if_neg hne,if_pos k']
   simp [yq]; omega
  ·have k':¬ t.1[s * 2 + 1].fl.fCa < 0:=by simpa using k
   refine dO rfl (cL ?_)
   refine ld_a (j:=0) (i:=s * 2 + 1) (k:=4) t.1[s * 2 + 1].fwhen iW s2 rfl (by simp; omega) (aE h1) (c1 rfl rfl) ?_
   refine ld_a (j:=0) (i:=s * 2) (k:=4) t.1[s * 2].fwhen iW s2 rfl (by simp) (aE h0) (c1 rfl rfl) ?_
   refine aY (fun k2=>?_) (fun k2=>?_)
   ·have k2':t.1[s * 2 + 1].fwhen < t.1[s * 2].fwhen:=by simpa using k2
    refine ⟨⟨.inr (.inr ⟨w2,?_⟩),s1⟩,by show 2 - (i64.wrap ((1:Int) + 1)).toNat < _; rw [w2]; simp⟩
    unfold Tlb.room
    rw [l0,l1,if_neg hne,if_neg k',if_pos k2']
    simp [yq]; omega
   ·have k2':¬ t.1[s * 2 + 1].fwhen < t.1[s * 2].fwhen:=by simpa using k2
    refine ⟨⟨.inr (.inr ⟨w2,?_⟩),s1⟩,by show 2 - (i64.wrap ((1:Int) + 1)).toNat < _; rw [w2]; simp⟩
    unfold Tlb.room
    rw [l0,l1,if_neg hne,if_neg k',if_neg k2']
    simp [yq]
 ·simp only at hz1 hz2
  subst hz1
  exact dO rfl (aZ hz2 s1)
namespace Tlb
def bad (a:ao):Prop:=a.fCa < 0\/a.fCa >= 4\/a.fPa < 0\/a.fPa >= 8\/a.fEa < 0\/a.fEa >= 16\/ci a.fBa = false
instance (a:ao):Decidable (bad a):=by unfold bad; infer_instance
def place (ls:List TL) (a:ao):Nat:=match at_ ls a.fCa a.fPa with | some n=>n | none=>room ls ((a.fPa.tmod 4).toNat * 2)
def fill (t:List TL × Int) (a:ao):Bool × List TL × Int :=
 if bad a then (false,t) else (true,t.1.set (place t.1 a) ⟨a,i64.wrap (t.2 + 1)⟩,i64.wrap (t.2 + 1))
def clr (c:TL):TL:={ c with fl:=dR }
def clear (t:List TL × Int):List TL × Int:=(t.1.map clr,t.2)
end Tlb
theorem tmod4 {p:Int} (h0:0 <= p):∃ q:Nat,p.tmod 4 = q/\q < 4:=by
 obtain ⟨q,rfl⟩:=eq_ofNat_of_zero_le h0
 exact ⟨q % 4,by rw [show ((4:Int)) = ((4:Nat):Int) from rfl,← Int.ofNat_tmod],Nat.mod_lt _ (by omega)⟩
theorem room_lt (ls:List TL) (a:Nat):Tlb.room ls a <= a + 1:=by
 unfold Tlb.room; split <;> (try split) <;> (try split) <;> omega
theorem sp_tlb_Fill (x:Ptr) (t:List TL × Int) (a:ao):Sp prog pK [pv x,.agg a.C.toArray] aC [fG x t] (fun r=>pa_ (r = (Tlb.fill t a).1) [fG x (Tlb.fill t a).2]):=by
 intro h s0
 obtain ⟨b,rfl,hb,st⟩:=nZ s0
 refine sim_tlb_Tlb_Fill _ _ ?_
 unfold sh_tlb_Tlb_Fill
 refine aY (fun k=>?_) (fun k=>?_)
 ·have k':Tlb.bad a:=by simpa [Tlb.bad,or_assoc] using k
  have e1:Tlb.fill t a = (false,t):=if_pos k'
  rw [e1]
  exact aZ rfl (qB hb st)
 ·have k':¬ Tlb.bad a:=by
   unfold Tlb.bad
   simp at k
   obtain ⟨⟨⟨⟨⟨⟨c1,c2⟩,c3⟩,c4⟩,c5⟩,c6⟩,c7⟩:=k
   simp [c7]; omega
  have e1:Tlb.fill t a = (true,t.1.set (Tlb.place t.1 a) ⟨a,i64.wrap (t.2 + 1)⟩,i64.wrap (t.2 + 1)):=if_neg k'
  rw [e1]
  have fin:∀ (n:Nat) (h:Hp),n = Tlb.place t.1 a->n < 8->aB [fG (some (b,0)) t] h->kQ (some (b,0)) a (fun r=>pa_ (r = true) [fG (some (b,0)) (t.1.set (Tlb.place t.1 a) ⟨a,i64.wrap (t.2 + 1)⟩,i64.wrap (t.2 + 1))]) (some (b,n * 5)) h:=by
   intro n h hn hlt s1
   obtain ⟨b',hb',_,s2⟩:=nZ s1
   cases hb'
   have hn':n < t.1.length:=by omega
   have hfl:(t.1.flatMap cu.C).length = 40:=by rw [dY iW,hb]
   have lM:([]++(t.1.flatMap cu.C++[Value.int .i64 t.2]))[0 + 40]? = some (.int .i64 t.2):=by
    rw [nil_append,List.getElem?_append_right (by omega),hfl]; rfl
   unfold kQ
   refine cL (bp t.2 s2 (i:=0) rfl rfl lM ?_)
   refine uG (i:=0) s2 rfl (by simp [hfl]) fun h3 s3=>?_
   have ew:wr ([]++(t.1.flatMap cu.C++[Value.int .i64 t.2])) (0 + 40) [.int .i64 (i64.wrap (t.2 + 1))] = []++(t.1.flatMap cu.C++[Value.int .i64 (i64.wrap (t.2 + 1))]):=by
    rw [nil_append,nil_append,show 0 + 40 = (t.1.flatMap cu.C).length + 0 from by rw [hfl],rm]; rfl
   have s4:aB [blk b qG ([]++(t.1.flatMap cu.C++[Value.int .i64 (i64.wrap (t.2 + 1))]))] h3:=by rw [← ew]; exact s3
   have hcell2:([]++(t.1.flatMap cu.C++[Value.int .i64 (i64.wrap (t.2 + 1))]))[0 + 40]? = some (.int .i64 (i64.wrap (t.2 + 1))):=by
    rw [nil_append,List.getElem?_append_right (by omega),hfl]; rfl
   refine bp (i64.wrap (t.2 + 1)) s4 (i:=0) rfl rfl hcell2 ?_
   refine cL ?_
   refine st_a (j:=0) (i:=n) (k:=0) (⟨a,i64.wrap (t.2 + 1)⟩:TL) iW s4 rfl (by simp) (aE hn') (by simp [iW]) rfl fun h5 s5=>?_
   subst hn
   exact aZ rfl (qB (t:=(t.1.set (Tlb.place t.1 a) ⟨a,i64.wrap (t.2 + 1)⟩,i64.wrap (t.2 + 1))) (by simpa using hb) s5)
  refine cW [0] (sp_tlb_at b t a.fCa a.fPa hb) s0 rfl fun r h' s1=>?_
  obtain ⟨hr,s2⟩:=bt.1 s1
  cases ho:Tlb.at_ t.1 a.fCa a.fPa with
  | none =>
   rw [ho] at hr; subst hr
   refine eD rfl ?_
   obtain ⟨q,hq,hq4⟩:=tmod4 (p:=a.fPa) (by unfold Tlb.bad at k'; omega)
   rw [hq]
   refine cW [0] (sp_tlb_room b t q hq4 hb) s2 rfl fun r h' s3=>?_
   obtain ⟨hr,s4⟩:=bt.1 s3
   subst hr
   have hp:Tlb.room t.1 (q * 2) = Tlb.place t.1 a:=by unfold Tlb.place; rw [ho,hq,Int.toNat_natCast]
   exact fin _ _ hp (by have:=room_lt t.1 (q * 2); omega) s4
  | some n =>
   rw [ho] at hr; subst hr
   refine dO rfl ?_
   exact fin _ _ (by unfold Tlb.place; rw [ho]) (Tlb.at_lt ho) s2
theorem tlb_clear_take (ls:List TL) (n:Nat) (hn:n < ls.length):(((ls.take n).map Tlb.clr)++ls.drop n).set n (Tlb.clr ls[n]) = ((ls.take (n + 1)).map Tlb.clr)++ls.drop (n + 1):=by
 have h1:ls.drop n = ls[n]::ls.drop (n + 1):=List.drop_eq_getElem_cons hn
 have h2:ls.take (n + 1) = ls.take n++[ls[n]]:=by simp
 rw [h2,List.map_append,List.set_append_right _ _ (by simp; omega)]
 have:n - ((ls.take n).map Tlb.clr).length = 0:=by simp; omega
 rw [this,h1,List.append_assoc]
 rfl
theorem sp_tlb_Clear (x:Ptr) (t:List TL × Int):Sp prog sc [pv x] R_ [fG x t] (fun _=>aB [fG x (Tlb.clear t)]):=by
 intro h s0
 obtain ⟨b,rfl,hb,st⟩:=nZ s0
 refine sim_tlb_Tlb_Clear _ ?_
 unfold wM
 refine dO rfl ?_
 have mid:∀ n:Nat,n <= 8->((((t.1.take n).map Tlb.clr)++t.1.drop n)).length = 8:=by intro n hn; simp; omega
 refine Lp.intro (fun (i:Int) h=>∃ n:Nat,i = n/\n <= 4/\aB [fG (some (b,0)) (((t.1.take (n * 2)).map Tlb.clr)++t.1.drop (n * 2),t.2)] h) (fun (i:Int) _=>4 - i.toNat) ⟨0,rfl,by omega,by simpa using qB hb st⟩ ?_
 rintro i h ⟨n,rfl,hn,s1⟩
 unfold qF
 refine aY (fun k=>?_) (fun k=>?_)
 ·have hlt:n < 4:=by have:=of_decide_eq_true k; omega
  refine Lp.intro (fun (j:Int) h=>∃ m:Nat,j = m/\m <= 2/\aB [fG (some (b,0)) (((t.1.take (n * 2 + m)).map Tlb.clr)++t.1.drop (n * 2 + m),t.2)] h) (fun (j:Int) _=>2 - j.toNat) ⟨0,rfl,by omega,s1⟩ ?_
  rintro j h ⟨m,rfl,hm,s2⟩
  unfold qE
  refine aY (fun k2=>?_) (fun k2=>?_)
  ·have hlt2:m < 2:=by have:=of_decide_eq_true k2; omega
   have hw:i64.wrap ((m:Int) + 1) = ((m + 1:Nat):Int):=by rw [bm (by omega) (by omega)]; rfl
   have hi:n * 2 + m < t.1.length:=by omega
   obtain ⟨b',hb',_,s3⟩:=nZ s2
   cases hb'
   refine cL ⟨⟨by omega,by omega⟩,⟨by omega,by omega⟩,?_⟩
   have hget:(((t.1.take (n * 2 + m)).map Tlb.clr)++t.1.drop (n * 2 + m))[n * 2 + m]? = some t.1[n * 2 + m]:=by
    rw [List.getElem?_append_right (by simp; omega)]
    have:n * 2 + m - ((t.1.take (n * 2 + m)).map Tlb.clr).length = 0:=by simp; omega
    rw [this,List.getElem?_drop]
    exact aE hi
   refine st_a (j:=0) (i:=n * 2 + m) (k:=0) (Tlb.clr t.1[n * 2 + m]) iW s3 rfl (by simp; omega) hget (by simp [ao.C]) rfl fun h2 s4=>?_
   rw [hw]
   refine ⟨⟨m + 1,rfl,hlt2,?_⟩,by simp; omega⟩
   have:=tlb_clear_take t.1 (n * 2 + m) hi
   have s5:=qB (t:=((((t.1.take (n * 2 + m)).map Tlb.clr)++t.1.drop (n * 2 + m)).set (n * 2 + m) (Tlb.clr t.1[n * 2 + m]),t.2)) (by simp; omega) s4
   rw [this] at s5
   exact s5
  ·have hm2:m = 2:=by have:=of_decide_eq_false k2; omega
   subst hm2
   have hw:i64.wrap ((n:Int) + 1) = ((n + 1:Nat):Int):=by rw [bm (by omega) (by omega)]; rfl
   rw [hw]
   exact ⟨⟨n + 1,rfl,hlt,by rw [show (n + 1) * 2 = n * 2 + 2 from by omega]; exact s2⟩,by simp; omega⟩
 ·have hn4:n = 4:=by have:=of_decide_eq_false k; omega
  subst hn4
  have e:(((t.1.take (4 * 2)).map Tlb.clr)++t.1.drop (4 * 2),t.2) = Tlb.clear t:=by
   unfold Tlb.clear
   rw [show 4 * 2 = t.1.length from by rw [hb],take_length,List.drop_length,List.append_nil]
  rw [e] at s1
  exact s1
theorem tlb_new_run (K:Value->Hp->Prop) (h:Hp):hp prog (Instr.build qG #[]) K h = K (.agg (((replicate 8 Tlb.line0).flatMap cu.C++[Value.int .i64 0])).toArray) h:=by kernel_rfl
abbrev tlb0:List TL × Int:=(replicate 8 ⟨⟨-1,0,0,0⟩,0⟩,0)
theorem xD:Sp prog jf [] gT [] (fun r=>aB [fG r tlb0]):=by
 intro h st
 refine sim_tlb_New ?_
 unfold sh_tlb_New
 refine ⟨?_⟩
 rw [tlb_new_run]
 refine ⟨_,rfl,?_⟩
 refine pG st fun b h' s1=>?_
 have s2:=qB (t:=(replicate 8 Tlb.line0,0)) rfl s1
 refine cW [0] (sp_tlb_Clear (some (b,0)) _) s2 rfl fun r h' s3=>?_
 exact dE s3
abbrev vL (s:Sl) (xs:List ao):As:=vec t_api_Line 4 ao.C s xs
theorem line_len (p:ao):p.C.length = 4:=rfl
theorem line_one (p:ao):dM p.C = true:=rfl
def Tlb.lines (t:List TL × Int):List ao:=t.1.map (·.fl)
theorem sp_tlb_Lines (x:Ptr) (t:List TL × Int):Sp prog rY [pv x] rR [fG x t] (fun r=>aB [vL r (Tlb.lines t),fG x t]):=by
 intro h s0
 obtain ⟨b,rfl,hb,st⟩:=nZ s0
 refine sim_tlb_Tlb_Lines _ ?_
 unfold wJ
 refine dO rfl ?_
 refine Lp.intro (fun (z:Sl × Int) h=>∃ n:Nat,z.2 = n/\n <= 4/\aB [vL z.1 ((t.1.take (n * 2)).map (·.fl)),fG (some (b,0)) t] h) (fun (z:Sl × Int) _=>4 - z.2.toNat) ⟨0,rfl,by omega,fX (qB hb st)⟩ ?_
 rintro ⟨z,i⟩ h ⟨n,rfl,hn,s1⟩
 unfold qD
 refine aY (fun k=>?_) (fun k=>?_)
 ·have hlt:n < 4:=by have:=of_decide_eq_true k; omega
  have h0:n * 2 < t.1.length:=by omega
  have h1:n * 2 + 1 < t.1.length:=by omega
  obtain ⟨b',hb',_,s2⟩:=nZ (bb [1] s1 rfl)
  cases hb'
  refine cL ⟨⟨by omega,by omega⟩,?_⟩
  refine ld_s (⟨t.1[n * 2],t.1[n * 2 + 1]⟩:jD) s2 (i:=0) rfl ?_ ?_
  ·intro j v hv
   have hfl:(t.1.flatMap cu.C).length = 40:=by rw [dY iW,hb]
   have hsp:jD.C ⟨t.1[n * 2],t.1[n * 2 + 1]⟩ = (t.1[n * 2]).C++(t.1[n * 2 + 1]).C:=rfl
   rw [hsp] at hv
   have hj:j < 10:=by have:=(List.getElem?_eq_some_iff.1 hv).1; simpa [iW] using this
   have key:(t.1.flatMap cu.C)[n * 10 + j]? = some v:=by
    by_cases h5:j < 5
    ·rw [List.getElem?_append_left (by simpa [iW] using h5)] at hv
     have:=ur iW t.1 (n * 2) j _ v (aE h0) hv
     rw [show n * 10 + j = n * 2 * 5 + j from by omega]; exact this
    ·rw [List.getElem?_append_right (by simp [iW]; omega),iW] at hv
     have:=ur iW t.1 (n * 2 + 1) (j - 5) _ v (aE h1) hv
     rw [show n * 10 + j = (n * 2 + 1) * 5 + (j - 5) from by omega]; exact this
   have hlt':=(List.getElem?_eq_some_iff.1 key).1
   rw [nil_append,show (b,0).2 + 0 + (n:Int).toNat * 10 + j = n * 10 + j from by simp,List.getElem?_append_left hlt']
   exact key
  ·refine Lp.intro (fun (z:Sl × Int) h=>∃ m:Nat,z.2 = m/\m <= 2/\aB [vL z.1 ((t.1.take (n * 2 + m)).map (·.fl)),fG (some (b,0)) t] h) (fun (z:Sl × Int) _=>2 - z.2.toNat) ⟨0,rfl,by omega,s1⟩ ?_
   rintro ⟨y,j⟩ h ⟨m,rfl,hm,s3⟩
   unfold qC
   refine aY (fun k2=>?_) (fun k2=>?_)
   ·have hlt2:m < 2:=by have:=of_decide_eq_true k2; omega
    have hw:i64.wrap ((m:Int) + 1) = ((m + 1:Nat):Int):=by rw [bm (by omega) (by omega)]; rfl
    have hi:n * 2 + m < t.1.length:=by omega
    have hget:[t.1[n * 2],t.1[n * 2 + 1]][m]? = some t.1[n * 2 + m]:=by
     have:m = 0\/m = 1:=by omega
     rcases this with rfl | rfl <;> rfl
    refine index_v (enc:=cu.C) (m:=5) (xs:=[t.1[n * 2],t.1[n * 2 + 1]]) arn_2_tlb_line age_2_tlb_line iW (fun _=>rfl) rfl hget ?_
    have hlen:(((t.1.take (n * 2 + m)).map (·.fl)):List ao).length <= 8:=by simp; omega
    refine la (τ:=ao) (i:=0) (enc:=ao.C) (val:=fun x=>.agg x.C.toArray) el_Sapi_Line line_len line_one (fun _=>rfl) (by omega) rfl rfl s3 rfl (by omega) (by omega) fun v h' s4=>?_
    rw [hw]
    refine ⟨⟨m + 1,rfl,hlt2,?_⟩,by simp; omega⟩
    have ht:t.1.take (n * 2 + (m + 1)) = t.1.take (n * 2 + m)++[t.1[n * 2 + m]]:=by rw [← Nat.add_assoc]; simp
    rw [ht,List.map_append]
    exact s4
   ·have hm2:m = 2:=by have:=of_decide_eq_false k2; omega
    subst hm2
    have hw:i64.wrap ((n:Int) + 1) = ((n + 1:Nat):Int):=by rw [bm (by omega) (by omega)]; rfl
    rw [hw]
    exact ⟨⟨n + 1,rfl,hlt,by rw [show (n + 1) * 2 = n * 2 + 2 from by omega]; exact s3⟩,by simp; omega⟩
 ·have hn4:n = 4:=by have:=of_decide_eq_false k; omega
  subst hn4
  rw [show t.1.take (4 * 2) = t.1 from by rw [show 4 * 2 = t.1.length from by rw [hb]]; exact take_length] at s1
  exact s1
end
section
open Go Mb
def sh_user_Walk (a0:Ptr) (a1:Ptr) (a2:Int) (a3:Int) (a4:Int) (K:(ao × Bool)->Hp->Prop):Hp->Prop:=cl prog pJ [(pv a0),(.int .i64 a2),(.int .i64 a3)] fW fun r21=>br (r21.2 && (cz r21.1.fBa a4)) ( K (r21.1,true)) ( cl prog fy [(pv a1),(.int .i64 a3)] cM fun r35=>br (!(cz r35.1.fBa a4)) ( cl prog nT [(pv a0),(.int .i64 a2),(.int .i64 a3)] aC fun r46=>K ((⟨0,0,0,0⟩:ao),false)) ( cl prog pK [(pv a0),(.agg (ao.C (⟨a2,a3,r35.1.fEa,r35.1.fBa⟩:ao)).toArray)] aC fun r57=>K ((⟨a2,a3,r35.1.fEa,r35.1.fBa⟩:ao),true)))
theorem sim_user_Walk (a0:Ptr) (a1:Ptr) (a2:Int) (a3:Int) (a4:Int) {K:(ao × Bool)->Hp->Prop} {h:Hp} (H:sh_user_Walk a0 a1 a2 a3 a4 K h):cl prog vx [(pv a0),(pv a1),(.int .i64 a2),(.int .i64 a3),(.int .i64 a4)] fW K h:=z_i func113 p p fun _=>O<|aa<|aO (l:=ao.C (⟨0,0,0,0⟩:ao)) lC p p fun b10=>U p<|am<|O<|M p<|M p<|M p<|aa<|D H en_157 fun r21 _ H1=>M p<|J (al p p)<|J (al p p)<|aa<|aO (l:=ao.C (⟨0,0,0,0⟩:ao)) lC p p fun b12=>aa<|aQ (k:=0) (vs:=ao.C r21.1) fN p p p p p p p<|U p<|O<|M p<|M p<|W p p (ay _) (fun g2=>wv<|ah rN p)<|W p p (ay _) (fun g3=>cv<|bc (k:=0) ba (aG p g3) p p)<|W p p (ay _) (fun g4=>wv<|ai p)<|dh (vs:=[(.int .i64 r21.1.fBa),(.int .i64 a4)]) p p p (ay _) (fun g5=>bv<|ky r21.1.fBa a4 _) en_158 (fun g5=>aU (aG p g5)<|aU (aG p g5) bX) p<|J (bQ p p)<|ae<|ax p H1 (fun k6 H7=>O<|bi (bH (k:=0) ip p p p p) p<|aa<|aQ (k:=1) (vs:=ao.C r21.1) fN p p p p p p p<|U p<|aj<|bD (bW p (bG (k:=1) p ip p p)<|cg p) ⟨(r21.1,true),p,H7⟩) fun k6 H7=>ap<|O<|M p<|M p<|aa<|D H7 en_135 fun r35 _ H8=>M p<|J (al p p)<|J (al p p)<|aa<|aO (l:=an.C (⟨0,0,0⟩:an)) gq p p fun b14=>aa<|aQ (k:=0) (vs:=an.C r35.1) eq p p p p p p p<|U p<|am<|O<|J (ah fd p)<|bi (bc (k:=0) ba p p p) p<|M p<|aa<|cH (vs:=[(.int .i64 r35.1.fBa),(.int .i64 a4)]) (bv<|ky r35.1.fBa a4 _) en_158 p p<|J (cy p)<|ae<|ax p H8 (fun k9 H10=>O<|M p<|M p<|M p<|aa<|D H10 en_117 fun r46 _ H11=>ae<|O<|J (bd (vs:=[]) p my)<|aa<|aQ (k:=2) (vs:=ao.C (⟨0,0,0,0⟩:ao)) fN p p p p p p p<|U p<|aj<|bD (bW p (bG (k:=2) p ip p p)<|cg p) ⟨((⟨0,0,0,0⟩:ao),false),p,H11⟩) fun k9 H10=>ap<|O<|M p<|M p<|J (ah rL p)<|bi (bc (k:=0) ba p p p) p<|J (ah fd p)<|bi (bc (k:=0) ba p p p) p<|J (bd p<|xv a2 a3 r35.1.fEa r35.1.fBa)<|aa<|aO (l:=ao.C (⟨0,0,0,0⟩:ao)) lC p p fun b16=>aa<|aQ (k:=0) (vs:=ao.C (⟨a2,a3,r35.1.fEa,r35.1.fBa⟩:ao)) fN p p p p p p p<|ae<|O<|M p<|bi (bH (k:=0) ip p p p p) p<|aa<|D H10 en_159 fun r57 _ H12=>ae<|O<|bi (bH (k:=0) ip p p p p) p<|aa<|aQ (k:=3) (vs:=ao.C (⟨a2,a3,r35.1.fEa,r35.1.fBa⟩:ao)) fN p p p p p p p<|U p<|aj<|bD (bW p (bG (k:=3) p ip p p)<|cg p) ⟨((⟨a2,a3,r35.1.fEa,r35.1.fBa⟩:ao),true),p,H12⟩
def sh_user_touch (a0:Ptr) (a1:Int) (a2:ak) (K:ad->Hp->Prop):Hp->Prop:=br ((i64.wrap a2.e0) == 20) ( cl prog iF [(pv a0),(.int .i64 a1),(.int .i64 (i64.wrap a2.e2))] bN fun r21=>K (⟨0,r21.1⟩:ad)) ( br ((i64.wrap a2.e0) == 21) ( cl prog fT [(pv a0),(.int .i64 a1),(.int .i64 (i64.wrap a2.e2)),(.int .u64 a2.e3)] aC fun r31=>K (⟨0,0⟩:ad)) ( br ((i64.wrap a2.e0) == 22) ( cl prog re [(pv a0),(.int .i64 a1),(.int .i64 (i64.wrap a2.e2)),(.int .u64 a2.e3),(.int .u64 a2.e4)] bN fun r42=>K (⟨0,r42.1⟩:ad)) ( br ((i64.wrap a2.e0) == 23) ( cl prog rf [(pv a0),(.int .i64 a1),(.int .i64 (i64.wrap a2.e2)),(.int .u64 a2.e3)] bN fun r53=>K (⟨0,r53.1⟩:ad)) ( K (⟨0,0⟩:ad)))))
theorem sim_user_touch (a0:Ptr) (a1:Int) (a2:ak) {K:ad->Hp->Prop} {h:Hp} (H:sh_user_touch a0 a1 a2 K h):cl prog yi [(pv a0),(.int .i64 a1),(.agg (ak.C a2).toArray)] ij K h:=z_i func185 p p fun _=>O<|aa<|cD (l:=ak.C a2) p p p fun b5=>aa<|aO (l:=ad.C (⟨0,0⟩:ad)) dq p p fun b6=>ae<|O<|J (bC du p p (by decide))<|bi (bc (k:=1) cG p p p) p<|J (dw ⟨_,underlying22⟩ underlying3 p)<|U p<|O<|U p<|am<|O<|J (bC du p p (by decide))<|bi (bc (k:=1) cG p p p) p<|J (dw ⟨_,underlying22⟩ underlying3 p)<|ae<|aw<|O<|J (bP p p)<|U p<|ax p H (fun k1 H2=>aq<|M p<|M p<|M p<|aa<|D H2 en_161 fun r21 _ H3=>M p<|J (al p p)<|J (al p p)<|U p<|O<|M p<|J (bd p<|kO r21.1)<|aa<|aQ (k:=0) (vs:=ad.C (⟨0,r21.1⟩:ad)) bR p p p p p p p<|ae<|aj<|bD (ng p<|bG (k:=0) p cO p p) ⟨(⟨0,r21.1⟩:ad),p,H3⟩) fun k1 H2=>O<|J (bP p p)<|U p<|ax p H2 (fun k4 H5=>aq<|M p<|M p<|M p<|J (bC du p p (by decide))<|bi (bc (k:=1) cG p p p) p<|aa<|D H5 en_162 fun r31 _ H6=>ae<|O<|M p<|J (bd p<|kO 0)<|aa<|aQ (k:=0) (vs:=ad.C (⟨0,0⟩:ad)) bR p p p p p p p<|ae<|aj<|bD (ng p<|bG (k:=0) p cO p p) ⟨(⟨0,0⟩:ad),p,H6⟩) fun k4 H5=>O<|J (bP p p)<|U p<|ax p H5 (fun k7 H8=>aq<|M p<|M p<|M p<|J (bC du p p (by decide))<|bi (bc (k:=1) cG p p p) p<|J (bC du p p (by decide))<|bi (bc (k:=1) cG p p p) p<|aa<|D H8 en_163 fun r42 _ H9=>M p<|J (al p p)<|J (al p p)<|U p<|O<|M p<|J (bd p<|kO r42.1)<|aa<|aQ (k:=0) (vs:=ad.C (⟨0,r42.1⟩:ad)) bR p p p p p p p<|ae<|aj<|bD (ng p<|bG (k:=0) p cO p p) ⟨(⟨0,r42.1⟩:ad),p,H9⟩) fun k7 H8=>O<|J (bP p p)<|U p<|ax p H8 (fun k10 H11=>aq<|M p<|M p<|M p<|J (bC du p p (by decide))<|bi (bc (k:=1) cG p p p) p<|aa<|D H11 en_164 fun r53 _ H12=>M p<|J (al p p)<|J (al p p)<|U p<|O<|M p<|J (bd p<|kO r53.1)<|aa<|aQ (k:=0) (vs:=ad.C (⟨0,r53.1⟩:ad)) bR p p p p p p p<|ae<|aj<|bD (ng p<|bG (k:=0) p cO p p) ⟨(⟨0,r53.1⟩:ad),p,H12⟩) fun k10 H11=>ap<|O<|M p<|J (bd p<|kO 0)<|aa<|aQ (k:=0) (vs:=ad.C (⟨0,0⟩:ad)) bR p p p p p p p<|ae<|aj<|bD (ng p<|bG (k:=0) p cO p p) ⟨(⟨0,0⟩:ad),p,H11⟩
def qA (a0:Ptr) (a1:Ptr) (a2:Ptr) (a3:Int) (a4:ak) (K:(ad × ao)->Hp->Prop) (s2:Int):Hp->Prop:=br (s2 != 0) ( K ((⟨s2,0⟩:ad),(⟨0,0,0,0⟩:ao))) ( cl prog vx [(pv a0),(pv a1),(.int .i64 a3),(.int .i64 (i64.wrap a4.e1)),(.int .i64 ((az a4).1))] fW fun r48=>br (!r48.2) ( K ((⟨7,0⟩:ad),(⟨0,0,0,0⟩:ao))) ( cl prog yi [(pv a2),(.int .i64 r48.1.fEa),(.agg (ak.C a4).toArray)] ij fun r59=>K (r59,r48.1)))
def sh_user_Do (a0:Ptr) (a1:Ptr) (a2:Ptr) (a3:Int) (a4:ak) (K:(ad × ao)->Hp->Prop):Hp->Prop:=cl prog ie [(.agg (ak.C a4).toArray),(.int .i64 4)] bj fun r18=>br ((decide (a3 < 0)) || (decide (a3 >= 4))) ( qA a0 a1 a2 a3 a4 K 10) ( br (!(bJ ((az a4).1))) ( qA a0 a1 a2 a3 a4 K 1) ( qA a0 a1 a2 a3 a4 K r18))
theorem sim_user_Do (a0:Ptr) (a1:Ptr) (a2:Ptr) (a3:Int) (a4:ak) {K:(ad × ao)->Hp->Prop} {h:Hp} (H:sh_user_Do a0 a1 a2 a3 a4 K h):cl prog n_user_Do [(pv a0),(pv a1),(pv a2),(.int .i64 a3),(.agg (ak.C a4).toArray)] eY K h:=z_i func144 p p fun _=>O<|aa<|cD (l:=ak.C a4) p p p fun b9=>aa<|aO (l:=ad.C (⟨0,0⟩:ad)) dq p p fun b10=>aa<|aO (l:=ao.C (⟨0,0,0,0⟩:ao)) lC p p fun b11=>ae<|O<|bi (bH (k:=2) fH p p p p) p<|aa<|D H en_110 fun r18 _ H1=>U p<|O<|bi (bH (k:=2) fH p p p p) p<|aa<|cH (vs:=[(.agg (ak.C a4).toArray)]) (bv<|kN a4 _) en_63 p p<|M p<|J (al p p)<|J (al p p)<|J (av p)<|U p<|eC (qA a0 a1 a2 a3 a4 K) (fun s2=>[(0,(pv a0)),(1,(pv a1)),(2,(pv a2)),(3,(.int .i64 a3)),(9,(.pointer (some ⟨b9,0,none⟩))),(10,(.pointer (some ⟨b10,0,none⟩))),(11,(.pointer (some ⟨b11,0,none⟩))),(12,(.int .i64 s2)),(13,(.int .i64 ((az a4).1)))]) (fun s2=>[bx b11 54 (ao.C (⟨0,0,0,0⟩:ao)),bx b10 30 (ad.C (⟨0,0⟩:ad)),bx b9 34 (ak.C a4)]) (aw<|O<|M p<|J (cj p p)<|M p<|W p p (aL _) (fun g10=>wv<|ai p)<|W p p (aL _) (fun g11=>wv<|jF (aG p g11) p)<|J (dy p p)<|U p<|ax p H1 (fun k12 H13=>aq<|U p<|cE 10 H13 (.cons p<|.cons p<|.cons p<|.cons p<|.cons p<|.cons p<|.cons p<|.cons p<|.cons p<|.nil _)<|.cons_cons _<|.cons_cons _<|.cons_cons _ .slnil) fun k12 H13=>O<|M p<|aa<|cH (vs:=[(.int .i64 ((az a4).1))]) (bv<|tj (az a4).1 _) en_64 p p<|J (cy p)<|U p<|ax p H13 (fun k14 H15=>aq<|U p<|cE 1 H15 (.cons p<|.cons p<|.cons p<|.cons p<|.cons p<|.cons p<|.cons p<|.cons p<|.cons p<|.nil _)<|.cons_cons _<|.cons_cons _<|.cons_cons _ .slnil) fun k14 H15=>ap<|cE r18 H15 (.cons p<|.cons p<|.cons p<|.cons p<|.cons p<|.cons p<|.cons p<|.cons p<|.cons p<|.nil _)<|.cons_cons _<|.cons_cons _<|.cons_cons _ .slnil) fun s2 _ H3=>am<|O<|M p<|J (qz p p)<|ae<|ax p H3 (fun k4 H5=>O<|M p<|J (bd p<|jK s2)<|J (bd (vs:=[]) p my)<|aa<|aQ (k:=1) (vs:=ad.C (⟨s2,0⟩:ad)) bR p p p p p p p<|aa<|aQ (k:=0) (vs:=ao.C (⟨0,0,0,0⟩:ao)) fN p p p p p p p<|ae<|aj<|bD (bW p (bG (k:=1) p cO p p)<|bG (k:=0) p ip p p) ⟨((⟨s2,0⟩:ad),(⟨0,0,0,0⟩:ao)),p,H5⟩) fun k4 H5=>ap<|O<|M p<|M p<|M p<|J (bC du p p (by decide))<|bi (bc (k:=2) cG p p p) p<|J (dw ⟨_,underlying22⟩ underlying3 p)<|M p<|aa<|D H5 en_113 fun r48 _ H6=>M p<|J (al p p)<|J (al p p)<|aa<|aO (l:=ao.C (⟨0,0,0,0⟩:ao)) lC p p fun b15=>aa<|aQ (k:=0) (vs:=ao.C r48.1) fN p p p p p p p<|U p<|am<|O<|M p<|J (cy p)<|ae<|ax p H6 (fun k7 H8=>O<|J (bd p<|jK 7)<|J (bd (vs:=[]) p my)<|aa<|aQ (k:=2) (vs:=ad.C (⟨7,0⟩:ad)) bR p p p p p p p<|aa<|aQ (k:=1) (vs:=ao.C (⟨0,0,0,0⟩:ao)) fN p p p p p p p<|ae<|aj<|bD (bW p (bG (k:=2) p cO p p)<|bG (k:=1) p ip p p) ⟨((⟨7,0⟩:ad),(⟨0,0,0,0⟩:ao)),p,H8⟩) fun k7 H8=>ap<|am<|bn (n:=8) [bx b15 54 (ao.C r48.1),bx b9 34 (ak.C a4)] ck p (.cons_cons _<|.cons _<|.cons _<|.cons_cons _ .slnil)<|V 0 p (ai p)<|V 1 p (ah ms p)<|z_E 2 p (dv (k:=0) ba p p p)<|z_E 3 p (eP (k:=1) fH p p p p)<|z_E 5 p (eP (k:=0) ip p p p p)<|I 4 p<|D H8 en_185 fun r59 _ H9=>⟨.cons_cons _<|.cons _<|.cons _<|.cons_cons _ .slnil,I 6 p<|aQ (k:=2) (vs:=ad.C r59) bR p p p p p p p ⟨.cons_cons _<|.cons _<|.cons _<|.cons_cons _ .slnil,I 7 p<|aQ (k:=1) (vs:=ao.C r48.1) fN p p p p p p p ⟨.cons_cons _<|.cons _<|.cons _<|.cons_cons _ .slnil,aR (by kernel_rfl)<|aj<|bD (bW p (bG (k:=2) p cO p p)<|bG (k:=1) p ip p p) ⟨(r59,r48.1),p,H9⟩⟩⟩⟩
end
section
open Go Mb
abbrev jM:=ao
abbrev Buf:=List TL × Int
abbrev ke:jM:=⟨0,0,0,0⟩
namespace User
def walk (b:Buf) (t:List Pte) (e pg kind:Int):(jM × Bool) × Buf :=
 if (Tlb.find b.1 e pg).2 = true/\cz (Tlb.find b.1 e pg).1.fBa kind = true then (((Tlb.find b.1 e pg).1,true),b)
 else if cz (Table.get t pg).1.fBa kind = false then ((ke,false),(Tlb.flush b e pg).2)
 else ((⟨e,pg,(Table.get t pg).1.fEa,(Table.get t pg).1.fBa⟩,true),(Tlb.fill b ⟨e,pg,(Table.get t pg).1.fEa,(Table.get t pg).1.fBa⟩).2)
def touch (m:List (List Int)) (f:Int) (c:dp):ad × List (List Int) :=
 if i64.wrap c.e0 = 20 then (⟨0,(Mem.load m f (i64.wrap c.e2)).1⟩,m)
 else if i64.wrap c.e0 = 21 then (⟨0,0⟩,(Mem.store m f (i64.wrap c.e2) c.e3).2)
 else if i64.wrap c.e0 = 22 then (⟨0,(Mem.cas m f (i64.wrap c.e2) c.e3 c.e4).1.1⟩,(Mem.cas m f (i64.wrap c.e2) c.e3 c.e4).2)
 else if i64.wrap c.e0 = 23 then (⟨0,(Mem.add m f (i64.wrap c.e2) c.e3).1.1⟩,(Mem.add m f (i64.wrap c.e2) c.e3).2)
 else (⟨0,0⟩,m)
def bad (e:Int) (c:dp):Int:=if e < 0\/e >= 4 then 10 else if bJ (az c).1 = false then 1 else Word.check c 4
def do_ (b:Buf) (t:List Pte) (m:List (List Int)) (e:Int) (c:dp):(ad × jM) × Buf × List (List Int) :=
 if bad e c ≠ 0 then ((⟨bad e c,0⟩,ke),b,m)
 else if (walk b t e (i64.wrap c.e1) (az c).1).1.2 = false then ((⟨7,0⟩,ke),(walk b t e (i64.wrap c.e1) (az c).1).2,m)
 else (((touch m (walk b t e (i64.wrap c.e1) (az c).1).1.1.fEa c).1,(walk b t e (i64.wrap c.e1) (az c).1).1.1),(walk b t e (i64.wrap c.e1) (az c).1).2,(touch m (walk b t e (i64.wrap c.e1) (az c).1).1.1.fEa c).2)
end User
theorem sp_user_Walk (x y:Ptr) (b:Buf) (t:List Pte) (e pg kind:Int):Sp prog vx [pv x,pv y,.int .i64 e,.int .i64 pg,.int .i64 kind] fW [fG x b,de y t] (fun r=>pa_ (r = (User.walk b t e pg kind).1) [fG x (User.walk b t e pg kind).2,de y t]):=by
 intro h s0
 refine sim_user_Walk _ _ _ _ _ ?_
 unfold sh_user_Walk
 refine bS (sp_tlb_Find x b e pg) (i:=0) rfl s0 fun r h1 hr s1=>?_
 subst hr
 refine aY (fun k=>?_) (fun k=>?_)
 ·have k':(Tlb.find b.1 e pg).2 = true/\cz (Tlb.find b.1 e pg).1.fBa kind = true:=by simpa using k
  have e1:User.walk b t e pg kind = (((Tlb.find b.1 e pg).1,true),b):=if_pos k'
  rw [e1]; exact aZ rfl s1
 ·have k':¬ ((Tlb.find b.1 e pg).2 = true/\cz (Tlb.find b.1 e pg).1.fBa kind = true):=by simpa using k
  refine bS (oF y t pg) (i:=1) rfl s1 fun r h2 hr s2=>?_
  subst hr
  refine aY (fun k2=>?_) (fun k2=>?_)
  ·have e1:User.walk b t e pg kind = ((ke,false),(Tlb.flush b e pg).2):=by unfold User.walk; rw [if_neg k',if_pos (by simpa using k2)]
   rw [e1]
   exact bS (sp_tlb_Flush x b e pg) (i:=0) rfl s2 fun r h3 hr s3=>aZ rfl s3
  ·have e1:User.walk b t e pg kind = ((⟨e,pg,(Table.get t pg).1.fEa,(Table.get t pg).1.fBa⟩,true),(Tlb.fill b ⟨e,pg,(Table.get t pg).1.fEa,(Table.get t pg).1.fBa⟩).2):=by unfold User.walk; rw [if_neg k',if_neg (by simpa using k2)]
   rw [e1]
   exact bS (sp_tlb_Fill x b ⟨e,pg,(Table.get t pg).1.fEa,(Table.get t pg).1.fBa⟩) (i:=0) rfl s2 fun r h3 hr s3=>aZ rfl s3
theorem sp_user_touch (x:Ptr) (m:List (List Int)) (f:Int) (c:dp):Sp prog yi [pv x,.int .i64 f,.agg c.C.toArray] ij [iK x m] (fun r=>pa_ (r = (User.touch m f c).1) [iK x (User.touch m f c).2]):=by
 intro h s0
 refine sim_user_touch _ _ _ ?_
 unfold sh_user_touch
 refine aY (fun k=>?_) (fun k=>?_)
 ·have e1:User.touch m f c = (⟨0,(Mem.load m f (i64.wrap c.e2)).1⟩,m):=if_pos (by simpa using k)
  rw [e1]
  exact bS (rx x m f _) (i:=0) rfl s0 fun r h1 hr s1=>aZ (by rw [hr]) s1
 refine aY (fun k2=>?_) (fun k2=>?_)
 ·have e1:User.touch m f c = (⟨0,0⟩,(Mem.store m f (i64.wrap c.e2) c.e3).2):=by unfold User.touch; rw [if_neg (by simpa using k),if_pos (by simpa using k2)]
  rw [e1]
  exact bS (mC x m f _ _) (i:=0) rfl s0 fun r h1 hr s1=>aZ rfl s1
 refine aY (fun k3=>?_) (fun k3=>?_)
 ·have e1:User.touch m f c = (⟨0,(Mem.cas m f (i64.wrap c.e2) c.e3 c.e4).1.1⟩,(Mem.cas m f (i64.wrap c.e2) c.e3 c.e4).2):=by unfold User.touch; rw [if_neg (by simpa using k),if_neg (by simpa using k2),if_pos (by simpa using k3)]
  rw [e1]
  exact bS (sp_mem_Cas x m f _ _ _) (i:=0) rfl s0 fun r h1 hr s1=>aZ (by rw [hr]) s1
 refine aY (fun k4=>?_) (fun k4=>?_)
 ·have e1:User.touch m f c = (⟨0,(Mem.add m f (i64.wrap c.e2) c.e3).1.1⟩,(Mem.add m f (i64.wrap c.e2) c.e3).2):=by unfold User.touch; rw [if_neg (by simpa using k),if_neg (by simpa using k2),if_neg (by simpa using k3),if_pos (by simpa using k4)]
  rw [e1]
  exact bS (sp_mem_Add x m f _ _) (i:=0) rfl s0 fun r h1 hr s1=>aZ (by rw [hr]) s1
 have e1:User.touch m f c = (⟨0,0⟩,m):=by unfold User.touch; rw [if_neg (by simpa using k),if_neg (by simpa using k2),if_neg (by simpa using k3),if_neg (by simpa using k4)]
 rw [e1]
 exact aZ rfl s0
theorem sp_user_Do (x y z:Ptr) (b:Buf) (t:List Pte) (m:List (List Int)) (e:Int) (c:dp):Sp prog n_user_Do [pv x,pv y,pv z,.int .i64 e,.agg c.C.toArray] eY [fG x b,de y t,iK z m] (fun r=>pa_ (r = (User.do_ b t m e c).1) [fG x (User.do_ b t m e c).2.1,de y t,iK z (User.do_ b t m e c).2.2]):=by
 intro h s0
 refine sim_user_Do _ _ _ _ _ ?_
 unfold sh_user_Do
 refine uJ (jH c 4) s0 fun r h1 hr s1=>?_
 subst hr
 have go:∀ n,n = User.bad e c->qA x y z e c (fun r=>pa_ (r = (User.do_ b t m e c).1) [fG x (User.do_ b t m e c).2.1,de y t,iK z (User.do_ b t m e c).2.2]) n h1:=by
  intro n hn
  unfold qA
  refine aY (fun k=>?_) (fun k=>?_)
  ·have k':User.bad e c ≠ 0:=by rw [← hn]; simpa using k
   have e1:User.do_ b t m e c = ((⟨User.bad e c,0⟩,ke),b,m):=if_pos k'
   rw [e1]; exact aZ (by rw [hn]) s1
  ·have k':¬ User.bad e c ≠ 0:=by rw [← hn]; simpa using k
   refine cW [0,0] (sp_user_Walk x y b t e (i64.wrap c.e1) (az c).1) s1 rfl fun r h2 s2=>?_
   obtain ⟨hr,s3⟩:=bt.1 s2
   subst hr
   refine aY (fun k2=>?_) (fun k2=>?_)
   ·have e1:User.do_ b t m e c = ((⟨7,0⟩,ke),(User.walk b t e (i64.wrap c.e1) (az c).1).2,m):=by unfold User.do_; rw [if_neg k',if_pos (by simpa using k2)]
    rw [e1]; exact aZ rfl s3
   ·have e1:User.do_ b t m e c = (((User.touch m (User.walk b t e (i64.wrap c.e1) (az c).1).1.1.fEa c).1,(User.walk b t e (i64.wrap c.e1) (az c).1).1.1),(User.walk b t e (i64.wrap c.e1) (az c).1).2,(User.touch m (User.walk b t e (i64.wrap c.e1) (az c).1).1.1.fEa c).2):=by unfold User.do_; rw [if_neg k',if_neg (by simpa using k2)]
    rw [e1]
    exact bS (sp_user_touch z m _ c) (i:=2) rfl s3 fun r h3 hr s4=>aZ (by rw [hr]) s4
 refine aY (fun k=>go 10 ?_) (fun k=>?_)
 ·unfold User.bad; rw [if_pos (by simpa using k)]
 ·have k':¬ (e < 0\/e >= 4):=by simpa using k
  refine aY (fun k2=>go 1 ?_) (fun k2=>go _ ?_)
  ·unfold User.bad; rw [if_neg k',if_pos (by simpa using k2)]
  ·unfold User.bad; rw [if_neg k',if_neg (by simpa using k2)]
end
end Go.Proofs.YtemoifebbhoinaaGreatDoor
