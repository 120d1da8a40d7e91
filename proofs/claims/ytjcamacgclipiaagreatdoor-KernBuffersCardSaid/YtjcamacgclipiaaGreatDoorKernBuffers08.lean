/- Part of the proof of: The law KernBuffers returns true for every input, and leaves its arguments as they were. -/
import Derived.Test.YtjcamacgclipiaaGreatDoorKernBuffers07
set_option linter.all false
set_option maxRecDepth 20000
set_option maxHeartbeats 4000000
namespace Go.Proofs.YtjcamacgclipiaaGreatDoor
open Go.Proofs.Tryz
open Go.IntKind (i64 u64)
open _root_.Int (eq_ofNat_of_zero_le le_refl)
open _root_.List (getD_eq_getElem?_getD getElem_mem length_set nil_append range replicate take_length)
open _root_.Nat (add_zero)
section
open Go Mb
attribute [local irreducible] bM gR il Val Tx Tu Tn RV Res br nn ix gd ld st nw cl clv dL Lp ct
def sh_epoch_New (a0:Int) (K:kT Ptr):hT:=br ((decide (a0 < 1)) || (decide (a0 > 8))) ( K none) ( hpv prog (Instr.makeSlice aG (.int .i64 a0) (.int .i64 a0)) bi fun (v10:Sl)=>nw gn (iY.C (⟨(⟨none,0,0,none⟩:Sl),v10⟩:iY)) fun b12=>K (some (b12,0)))
theorem sim_epoch_New (a0:Int) {K:kT Ptr} {h:Hp} (H:sh_epoch_New a0 K h):cl prog nF [(.int .i64 a0)] gV K h:=J [] func52 H
def tu (a0:Ptr) (a1:Int) (K:kT Bool):hT:=br ((!a0.isNone) && (decide (a1 >= 0))) ( nn a0 fun q14=>ld (q14.1,q14.2 + 1) cS fun x16=>K (decide (a1 < (x16.len:Int)))) ( K false)
theorem sim_epoch_Epochs_is (a0:Ptr) (a1:Int) {K:kT Bool} {h:Hp} (H:tu a0 a1 K h):cl prog kD [(pv a0),(.int .i64 a1)] ai K h:=J [] func125 H
def sc (a0:Ptr) (K:kT Int):hT:=br a0.isNone ( K 0) ( nn a0 fun q6=>ld (q6.1,q6.2 + 0) cS fun x8=>K (u64.wrap (x8.len:Int)))
theorem sim_epoch_Epochs_Now (a0:Ptr) {K:kT Int} {h:Hp} (H:sc a0 K h):cl prog eV [(pv a0)] eE K h:=J [] func126 H
def pD (a0:Ptr) (a1:Int) (K:kT (Int × Bool)):hT:=cl prog kD [(pv a0),(.int .i64 a1)] ai fun r8=>br (!r8) ( K (0,false)) ( nn a0 fun q12=>ld (q12.1,q12.2 + 0) cS fun x14=>hpv prog (Instr.buildSlice aj 1 #[(0,(.int .i64 a1))]) av fun (v16:Sl)=>hpv prog (Builtin.append_ #[aj,aj] aj #[(sv x14),(sv v16)]) av fun (v17:Sl)=>st (q12.1,q12.2 + 0) [sv v17]<|cl prog eV [(.pointer (some ⟨q12.1,q12.2,none⟩))] eE fun r21=>K (r21,true))
theorem xD (a0:Ptr) (a1:Int) {K:kT (Int × Bool)} {h:Hp} (H:pD a0 a1 K h):cl prog hZ [(pv a0),(.int .i64 a1)] aU K h:=J [] func84 H
def ck (Rec13:kT (Sl × Int)) (s12:Sl × Int) (s21:Bool):hT:=br s21 ( hpv prog (Instr.buildSlice aj 1 #[(0,(.int .i64 s12.2))]) av fun (v43:Sl)=>hpv prog (Builtin.append_ #[aj,aj] aj #[(sv s12.1),(sv v43)]) av fun (v44:Sl)=>Rec13 (v44,(i64.wrap (s12.2 + 1)))) ( Rec13 (s12.1,(i64.wrap (s12.2 + 1))))
def pK (a1:Int) (K:kT Sl) (q17:Nat × Nat) (x19:Sl) (Rec13:kT (Sl × Int)) (s12:Sl × Int):hT:=br (decide (s12.2 < (x19.len:Int))) ( ix x19 s12.2 fun q24=>ld (q24.1,q24.2 + Int.toNat s12.2 * 1) (cI .u64) fun x25=>ct (ck Rec13 s12)<|br (decide (x25 < a1)) ( ld (q17.1,q17.2 + 0) cS fun x33=>ix x33 (u64.wrap (a1 - 1)) fun q36=>ld (q36.1,q36.2 + Int.toNat (u64.wrap (a1 - 1)) * 1) (cI .i64) fun x37=>ck Rec13 s12 (x37 != s12.2)) ( ck Rec13 s12 false)) ( K s12.1)
def pC (a0:Ptr) (a1:Int) (K:kT Sl):hT:=br (!(decide (a1 < 1))) ( cl prog eV [(pv a0)] eE fun r13=>br (decide (a1 > r13)) ( K (⟨none,0,0,none⟩:Sl)) ( nn a0 fun q17=>ld (q17.1,q17.2 + 1) cS fun x19=>Lp (pK a1 K q17 x19) ((⟨none,0,0,none⟩:Sl),0))) ( K (⟨none,0,0,none⟩:Sl))
theorem xC (a0:Ptr) (a1:Int) {K:kT Sl} {h:Hp} (H:pC a0 a1 K h):cl prog hY [(pv a0),(.int .u64 a1)] av K h:=have z0:LH (σ:=Sl × Int) 5 0 (fun s12 r=>(5,(sv s12.1))::(21,(.int .i64 s12.2))::r) [5,21] [0,1,19,20] (fun _ l=>l):=⟨⟩; have z1:LH (σ:=Bool) 102008 0 (fun s21 r=>(40,(.bool s21))::r) [40] [0,1,5,6,19,20,21] (fun _ l=>l):=⟨⟩; J [2008] func128 H
def re (a0:Ptr) (a1:Int) (K:kT Bool):hT:=br (decide (a1 >= 1)) ( cl prog eV [(pv a0)] eE fun r10=>br (decide (a1 <= r10)) ( cl prog hY [(pv a0),(.int .u64 a1)] av fun r16=>K ((r16.len:Int) == 0)) ( K false)) ( K false)
theorem sim_epoch_Epochs_Done (a0:Ptr) (a1:Int) {K:kT Bool} {h:Hp} (H:re a0 a1 K h):cl prog iB [(pv a0),(.int .u64 a1)] ai K h:=J [] func86 H
def sd (a0:Ptr) (a1:Int) (a2:Int) (K:kT Bool):hT:=cl prog kD [(pv a0),(.int .i64 a1)] ai fun r9=>br (!((!r9) || (decide (a2 < 1)))) ( cl prog eV [(pv a0)] eE fun r18=>br (decide (a2 > r18)) ( K false) ( nn a0 fun q22=>ld (q22.1,q22.2 + 1) cS fun x29=>ix x29 a1 fun q31=>ld (q31.1,q31.2 + Int.toNat a1 * 1) (cI .u64) fun x32=>ld (q22.1,q22.2 + 1) cS fun x24=>ix x24 a1 fun q35=>st (q35.1,q35.2 + Int.toNat a1 * 1) [.int .u64 (mx x32 a2)]<|K true)) ( K false)
theorem sim_epoch_Epochs_Ack (a0:Ptr) (a1:Int) (a2:Int) {K:kT Bool} {h:Hp} (H:sd a0 a1 a2 K h):cl prog jz [(pv a0),(.int .i64 a1),(.int .u64 a2)] ai K h:=have z0:OH 3 [0,16,20,36,48,4,8,24,28,33,40,45,52,13,56,62] .e []:=⟨⟩; J [] func89 H
end
section
open Go Mb
def dU (x:Ptr) (e:List Int × List Int):As:=fun h=>∃ bs:Nat × Sl × Sl,(x = some (bs.1,0)/\e.2.length <= 8/\e.1.length < 2 ^ 38)/\ah [blk bs.1 gn [sv bs.2.1,sv bs.2.2],vI bs.2.1 e.1,vU bs.2.2 e.2] h
theorem ep_op {x:Ptr} {e:List Int × List Int} {l:List As} {h:Hp} (s0:ah (dU x e::l) h):∃ b s t,x = some (b,0)/\e.2.length <= 8/\e.1.length < 2 ^ 38/\s.len = e.1.length/\t.len = e.2.length/\ah (blk b gn [sv s,sv t]::vI s e.1::vU t e.2::l) h:=by
 obtain ⟨⟨b,s,t⟩,⟨hx,h1,h2⟩,st⟩:=op_ s0;exact ⟨b,s,t,hx,h1,h2,(aX (j:=1) st rfl).1,(aX (j:=2) st rfl).1,st⟩
theorem ep_cl {b:Nat} {s t:Sl} {e1 e2:List Int} {l:List As} {h:Hp} (h1:e2.length <= 8) (h2:e1.length < 2 ^ 38) (st:ah (blk b gn [sv s,sv t]::vI s e1::vU t e2::l) h):ah (dU (some (b,0)) (e1,e2)::l) h :=
 cl_ (m:=fun bs:Nat × Sl × Sl=>[blk bs.1 gn [sv bs.2.1,sv bs.2.2],vI bs.2.1 (e1,e2).1,vU bs.2.2 (e1,e2).2]) (b,s,t) ⟨rfl,h1,h2⟩ st
namespace fNa
abbrev S:=List Int × List Int
def is (e:S) (c:Int):Bool:=decide (0 <= c/\c < e.2.length)
def now (e:S):Int:=e.1.length
def begin_ (e:S) (c:Int):(Int × Bool) × S:=if is e c then ((e.1.length + 1,true),(e.1++[c],e.2)) else ((0,false),e)
def ack (e:S) (c n:Int):Bool × S:=if is e c = true/\¬ n < 1/\¬ n > now e then (true,(e.1,e.2.set c.toNat (mx (e.2.getD c.toNat 0) n))) else (false,e)
def fIb (n o:Int):List Int->Int->List Int
 | [],_=>[]
 | a::l,i=>if a < n/\o ≠ i then i::fIb n o l (i + 1) else fIb n o l (i + 1)
def waits (e:S) (n:Int):List Int:=if n < 1\/n > now e then [] else fIb n (e.1.getD (n - 1).toNat 0) e.2 0
def done (e:S) (n:Int):Bool:=decide (n >= 1) && decide (n <= now e) && decide (waits e n = [])
end fNa
theorem wrapU {n:Int} (h0:0 <= n) (h1:n < 2^64):u64.wrap n = n:=by
 simp only [IntKind.wrap]; first | omega | (simp [IntKind.bits,IntKind.signed]; omega)
theorem sA (n:Int) (h1:¬ n < 1) (h2:¬ n > 8):Sp prog nF [.int .i64 n] gV [] (fun r=>ah [dU r ([],replicate n.toNat 0)]):=by
 intro h st;refine sim_epoch_New _ ?_;unfold sh_epoch_New;obtain ⟨m,rfl⟩:=eq_ofNat_of_zero_le (show 0 <= n by omega);refine bB (by simp; omega) ?_;refine nI (τ:=Int) (x0:=0) (enc:=cI .u64) (n:=m) eX rfl st ?_ ?_ ?_
 ·omega
 ·omega
 ·intro v h' s1;refine nP s1 fun b h'' s2=>?_;exact ep_cl (by simp; omega) (by simp) (aA [1] (dp s2) rfl)
theorem sp_epoch_is (x:Ptr) (e:fNa.S) (c:Int):Sp prog kD [pv x,.int .i64 c] ai [dU x e] (fun r=>pa_ (r = fNa.is e c) [dU x e]):=by
 intro h s0;obtain ⟨b,s,t,rfl,hb,he,hs,ht,st⟩:=ep_op s0;refine sim_epoch_Epochs_is _ _ ?_;unfold tu;refine ar (fun k=>?_) (fun k=>?_)
 ·have k':0 <= c:=by simpa using k
  refine bn (aJ t st (i:=0) rfl rfl rfl ?_);exact aw (by simp [fNa.is,k',ht]) s0
 ·have k':¬ 0 <= c:=by simpa using k
  exact aw (by simp [fNa.is]; intro h; exact absurd h k') s0
theorem sy (x:Ptr) (e:fNa.S):Sp prog eV [pv x] eE [dU x e] (fun r=>pa_ (r = fNa.now e) [dU x e]):=by
 intro h s0;obtain ⟨b,s,t,rfl,hb,he,hs,ht,st⟩:=ep_op s0;refine sim_epoch_Epochs_Now _ ?_;unfold sc;refine bB rfl (bn (aJ s st (i:=0) rfl rfl rfl ?_));exact aw (by rw [wrapU (by omega) (by omega),hs]; rfl) s0
theorem sp_epoch_Begin (x:Ptr) (e:fNa.S) (c:Int) (hl:e.1.length < 2 ^ 37):Sp prog hZ [pv x,.int .i64 c] aU [dU x e] (fun r=>pa_ (r = (fNa.begin_ e c).1) [dU x (fNa.begin_ e c).2]):=by
 intro h s0;refine xD _ _ ?_;unfold pD;refine bG [0] (sp_epoch_is x e c) s0 rfl fun r h1 s1=>?_;obtain ⟨hr,s2⟩:=aM.1 s1;subst hr;refine ar (fun k=>?_) (fun k=>?_)
 ·have k':fNa.is e c = false:=by simpa using k
  have e1:fNa.begin_ e c = ((0,false),e):=by unfold fNa.begin_; rw [k']; rfl
  rw [e1];exact aw rfl s2
 ·have k':fNa.is e c = true:=by simpa using k
  have e1:fNa.begin_ e c = (((e.1.length:Int) + 1,true),(e.1++[c],e.2)):=if_pos k';rw [e1];obtain ⟨b,s,t,rfl,hb,he,hs,ht,st⟩:=ep_op s2;refine bn (aJ s st (i:=0) rfl rfl rfl ?_);refine sW st (i:=1) rfl (by omega) fun v h3 s3=>?_;refine mX (i:=0) s3 rfl (show 0 + 0 + 1 <= 2 by decide) fun h4 s4=>?_;have s5:=ep_cl (e1:=e.1++[c]) (e2:=e.2) hb (by simp; omega) s4;refine bG [0] (sy (some (b,0)) (e.1++[c],e.2)) s5 rfl fun r h6 s6=>?_;obtain ⟨hr,s7⟩:=aM.1 s6;subst hr;exact aw (by simp [fNa.now]) s7
theorem sp_epoch_Ack (x:Ptr) (e:fNa.S) (c n:Int):Sp prog jz [pv x,.int .i64 c,.int .u64 n] ai [dU x e] (fun r=>pa_ (r = (fNa.ack e c n).1) [dU x (fNa.ack e c n).2]):=by
 intro h s0;refine sim_epoch_Epochs_Ack _ _ _ ?_;unfold sd;refine bG [0] (sp_epoch_is x e c) s0 rfl fun r h1 s1=>?_;obtain ⟨hr,s2⟩:=aM.1 s1;subst hr;have no:¬ (fNa.is e c = true/\¬ n < 1/\¬ n > fNa.now e)->fNa.ack e c n = (false,e):=fun hh=>if_neg hh;refine ar (fun k=>?_) (fun k=>?_)
 ·have k':fNa.is e c = true/\¬ n < 1:=by simpa using k
  refine bG [0] (sy x e) s2 rfl fun r h3 s3=>?_;obtain ⟨hr,s4⟩:=aM.1 s3;subst hr;refine ar (fun k2=>?_) (fun k2=>?_)
  ·rw [no (fun hh=>hh.2.2 (by simpa using k2))];exact aw rfl s4
  ·have k2':¬ n > fNa.now e:=by simpa using k2
   have e1:fNa.ack e c n = (true,(e.1,e.2.set c.toNat (mx (e.2.getD c.toNat 0) n))):=if_pos ⟨k'.1,k'.2,k2'⟩;rw [e1];obtain ⟨b,s,t,rfl,hb,he,hs,ht,st⟩:=ep_op s4;have hc:=k'.1;unfold fNa.is at hc;have hc':=of_decide_eq_true hc;obtain ⟨m,rfl⟩:=eq_ofNat_of_zero_le hc'.1;have hm:m < e.2.length:=by omega
   refine bn (aJ t st (i:=0) rfl rfl rfl ?_);refine bE st (j:=2) rfl (by omega) (by omega) fun q hq=>?_;refine bK (j:=2) (i:=m) (k:=0) e.2[m] (bd _) st rfl hq (by simp) (al hm) (by simp) ?_;refine aJ t st (i:=0) rfl rfl rfl ?_;refine bE st (j:=2) rfl (by omega) (by omega) fun q2 hq2=>?_;refine tZ (j:=2) (i:=m) (k:=0) (mx e.2[m] n) (bd _) st rfl hq2 (by simp) (al hm) (by simp) rfl fun h5 s5=>?_;have hg:e.2.getD (m:Int).toNat 0 = e.2[m]:=by simp [hm]
   rw [hg];exact aw rfl (ep_cl (by simpa using hb) he s5)
 ·have k':¬ (fNa.is e c = true/\¬ n < 1):=by simp at k; simp; omega
  rw [no (fun hh=>k' ⟨hh.1,hh.2.1⟩)];exact aw rfl s2
theorem wZ (n o:Int):∀ (l:List Int) (i:Int) (a:Int),fNa.fIb n o (l++[a]) i = fNa.fIb n o l i++(if a < n/\o ≠ i + l.length then [i + l.length] else [])
 | [],i,a=>by simp only [nil_append,fNa.fIb]; split <;> simp_all
 | y::l,i,a=>by
  simp only [List.cons_append,fNa.fIb];rw [wZ n o l (i + 1) a];have e:i + 1 + (l.length:Int) = i + ((y::l).length:Int):=by simp; omega
  rw [e];split <;> simp
theorem waits_len (n o:Int):∀ (l:List Int) (i:Int),(fNa.fIb n o l i).length <= l.length
 | [],_=>Nat.le_refl _
 | a::l,i=>by unfold fNa.fIb; have:=waits_len n o l (i + 1); split <;> simp <;> omega
theorem sp_epoch_Waits (x:Ptr) (e:fNa.S) (n:Int):Sp prog hY [pv x,.int .u64 n] av [dU x e] (fun r=>ah [vI r (fNa.waits e n),dU x e]):=by
 intro h s0;refine xC _ _ ?_;unfold pC;have no:(n < 1\/n > fNa.now e)->fNa.waits e n = []:=fun hh=>if_pos hh;refine ar (fun k=>?_) (fun k=>?_)
 ·have k':¬ n < 1:=by simpa using k
  refine bG [0] (sy x e) s0 rfl fun r h3 s3=>?_;obtain ⟨hr,s4⟩:=aM.1 s3;subst hr;refine ar (fun k2=>?_) (fun k2=>?_)
  ·rw [no (.inr (by simpa using k2))];exact dp s4
  ·have k2':¬ n > fNa.now e:=by simpa using k2
   have e1:fNa.waits e n = fNa.fIb n (e.1.getD (n - 1).toNat 0) e.2 0:=if_neg (by omega);rw [e1];obtain ⟨b,s,t,rfl,hb,he,hs,ht,st⟩:=ep_op s4;obtain ⟨m,hm⟩:=eq_ofNat_of_zero_le (show 0 <= n - 1 by omega);have hm':m < e.1.length:=by unfold fNa.now at k2'; omega
   have hwu:u64.wrap (n - 1) = m:=by rw [wrapU (by omega) (by omega),hm]
   have hg:e.1.getD (n - 1).toNat 0 = e.1[m]:=by rw [hm]; simp [hm']
   rw [hg];refine bn (aJ t st (i:=0) rfl rfl rfl ?_);refine Lp.intro (fun (z:Sl × Int) h=>∃ k:Nat,z.2 = k/\k <= e.2.length/\ah [vI z.1 (fNa.fIb n e.1[m] (e.2.take k) 0),blk b gn [sv s,sv t],vI s e.1,vU t e.2] h) (fun (z:Sl × Int) _=>e.2.length - z.2.toNat) ⟨0,rfl,Nat.zero_le _,dp st⟩ ?_;rintro ⟨z,i⟩ h ⟨k3,rfl,hk3,s5⟩;unfold pK;refine ar (fun c=>?_) (fun c=>?_)
   ·have hlt:k3 < e.2.length:=by rw [ht] at c; simpa using c
    have hw:i64.wrap ((k3:Int) + 1) = ((k3 + 1:Nat):Int):=by rw [aE (by omega) (by omega)]; rfl
    have htk:e.2.take (k3 + 1) = e.2.take k3++[e.2[k3]]:=by simp
    have hlen:((e.2.take k3).length:Int) = k3:=by simp; omega
    have off:¬ (e.2[k3] < n/\e.1[m] ≠ k3)->ck (fun z' h'=>(∃ k:Nat,z'.2 = k/\k <= e.2.length/\ah [vI z'.1 (fNa.fIb n e.1[m] (e.2.take k) 0),blk b gn [sv s,sv t],vI s e.1,vU t e.2] h')/\e.2.length - z'.2.toNat < e.2.length - (k3:Int).toNat) (z,(k3:Int)) false h:=by
     intro hno;unfold ck;refine bB rfl ?_;rw [hw];refine ⟨⟨k3 + 1,rfl,hlt,?_⟩,by simp; omega⟩;rw [htk,wZ,hlen,Int.zero_add,if_neg hno,List.append_nil];exact s5
    refine bE s5 (j:=3) rfl (by omega) (by show (k3:Int) < _; omega) fun q hq=>?_;refine bK (j:=3) (i:=k3) (k:=0) e.2[k3] (bd _) s5 rfl hq (by simp) (al hlt) (by simp) ?_;refine ar (fun c2=>?_) (fun c2=>?_)
    ·have c2':e.2[k3] < n:=by simpa using c2
     refine aJ s s5 (i:=1) rfl rfl rfl ?_;rw [hwu];refine bE s5 (j:=2) rfl (by omega) (by omega) fun q2 hq2=>?_;refine bK (j:=2) (i:=m) (k:=0) e.1[m] (bd _) s5 rfl hq2 (by simp) (al hm') (by simp) ?_;by_cases hne:e.1[m] = (k3:Int)
     ·have:(e.1[m] != (k3:Int)) = false:=by simp [hne]
      show ck _ _ (e.1[m] != (k3:Int)) h;rw [this];exact off (fun hh=>hh.2 hne)
     ·have:(e.1[m] != (k3:Int)) = true:=by simp [hne]
      show ck _ _ (e.1[m] != (k3:Int)) h;rw [this];unfold ck;refine cg rfl ?_;refine sW s5 (i:=0) rfl ?_ fun v h' s6=>?_
      ·have:=waits_len n e.1[m] (e.2.take k3) 0; simp at this; omega
      ·rw [hw];refine ⟨⟨k3 + 1,rfl,hlt,?_⟩,by simp; omega⟩;rw [htk,wZ,hlen,Int.zero_add,if_pos ⟨c2',hne⟩];exact s6
    ·have c2':¬ e.2[k3] < n:=by simpa using c2
     exact off (fun hh=>c2' hh.1)
   ·have:k3 = e.2.length:=by rw [ht] at c; simp at c; omega
    subst this;rw [take_length] at s5;exact vV s5 fun h6 s6=>ep_cl hb he s6
 ·have k':n < 1:=by simpa using k
  rw [no (.inl k')];exact dp s0
theorem sp_epoch_Done (x:Ptr) (e:fNa.S) (n:Int):Sp prog iB [pv x,.int .u64 n] ai [dU x e] (fun r=>pa_ (r = fNa.done e n) [dU x e]):=by
 intro h s0;refine sim_epoch_Epochs_Done _ _ ?_;unfold re;refine ar (fun k=>?_) (fun k=>?_)
 ·have k':n >= 1:=by simpa using k
  refine bG [0] (sy x e) s0 rfl fun r h3 s3=>?_;obtain ⟨hr,s4⟩:=aM.1 s3;subst hr;refine ar (fun k2=>?_) (fun k2=>?_)
  ·refine bG [0] (sp_epoch_Waits x e n) s4 rfl fun r h5 s5=>?_;have s6:=bT s5;have hl:=(aX (j:=0) s6 rfl).1;refine aw ?_ (aT (l:=[vI r (fNa.waits e n)]) s6);have e1:decide (n >= 1) = true:=k;have e2:decide (n <= fNa.now e) = true:=k2;rw [hl];unfold fNa.done;rw [e1,e2];cases fNa.waits e n with
   | nil=>rfl
   | cons a l=>simp; omega
  ·exact aw (by unfold fNa.done; rw [k2]; simp) s4
 ·exact aw (by unfold fNa.done; rw [k]; rfl) s0
end
section
open Go Mb
attribute [local irreducible] bM gR il Val Tx Tu Tn RV Res br nn ix gd ld st nw cl clv dL Lp ct
def vO (a0:Ptr) (Rec4:kT Int) (s3:Int) (Rec9:kT Int) (s8:Int):hT:=br (decide (s8 < 2)) ( nn a0 fun q16=>gd (0 <= s3/\s3 < 4)<|gd (0 <= s8/\s8 < 2)<|st (q16.1,q16.2 + 0 + Int.toNat s3 * 10 + Int.toNat s8 * 5 + 0) (an.C cm)<|Rec9 (i64.wrap (s8 + 1))) ( Rec4 (i64.wrap (s3 + 1)))
def vS (a0:Ptr) (K:kT Unit) (Rec4:kT Int) (s3:Int):hT:=br (decide (s3 < 4)) ( Lp (vO a0 Rec4 s3) 0) ( K ())
def wq (a0:Ptr) (K:kT Unit):hT:=br a0.isNone ( K ()) ( Lp (vS a0 K) 0)
theorem sim_tlb_Tlb_Clear (a0:Ptr) {K:kT Unit} {h:Hp} (H:wq a0 K h):cl prog rB [(pv a0)] R_ K h:=have z0:LH (σ:=Int) 2 0 (fun s3 r=>(6,(.int .i64 s3))::r) [6] [0] (fun _ l=>l):=⟨⟩; have z1:LH (σ:=Int) 5 0 (fun s8 r=>(9,(.int .i64 s8))::r) [9] [0,2,6] (fun _ l=>l):=⟨⟩; have z2:OH 7 [0,4,8,16,20,24,14,28,32,38] .e []:=⟨⟩; J [] func107 H
def sh_tlb_New (K:kT Ptr):hT:=hpv prog (Instr.build pP #[]) encL fun (v2:(List Value))=>nw pP v2 fun b3=>cl prog rB [(.pointer (some ⟨b3,0,none⟩))] R_ fun (_:Unit)=>K (some (b3,0))
theorem sim_tlb_New {K:kT Ptr} {h:Hp} (H:sh_tlb_New K h):cl prog gS [] fG K h:=J [] func53 H
def mE (a2:Int) (K:kT Ptr) (Rec10:kT Int) (s9:Int) (q30:Nat × Nat) (s20:Bool):hT:=br s20 ( K (some (q30.1,q30.2 + 0 + Int.toNat (a2.tmod 4) * 10 + Int.toNat s9 * 5))) ( Rec10 (i64.wrap (s9 + 1)))
def tlb_Tlb_at_l1 (a0:Ptr) (a1:Int) (a2:Int) (K:kT Ptr) (Rec10:kT Int) (s9:Int):hT:=br (decide (s9 < 2)) ( nn a0 fun q30=>gd (0 <= (a2.tmod 4)/\(a2.tmod 4) < 4)<|gd (0 <= s9/\s9 < 2)<|ct (mE a2 K Rec10 s9 q30)<|ld (q30.1,q30.2 + 0 + Int.toNat (a2.tmod 4) * 10 + Int.toNat s9 * 5 + 0 + 0) (cI .i64) fun x38=>br (x38 == a1) ( ld (q30.1,q30.2 + 0 + Int.toNat (a2.tmod 4) * 10 + Int.toNat s9 * 5 + 0 + 1) (cI .i64) fun x46=>mE a2 K Rec10 s9 q30 (x46 == a2)) ( mE a2 K Rec10 s9 q30 false)) ( K none)
def sh_tlb_Tlb_at (a0:Ptr) (a1:Int) (a2:Int) (K:kT Ptr):hT:=br (((a0.isNone || (decide (a1 < 0))) || (decide (a2 < 0))) || (decide (a2 >= 8))) ( K none) ( Lp (tlb_Tlb_at_l1 a0 a1 a2 K) 0)
theorem sim_tlb_Tlb_at (a0:Ptr) (a1:Int) (a2:Int) {K:kT Ptr} {h:Hp} (H:sh_tlb_Tlb_at a0 a1 a2 K h):cl prog oz [(pv a0),(.int .i64 a1),(.int .i64 a2)] jm K h:=have z0:LH (σ:=Int) 4 0 (fun s9 r=>(23,(.int .i64 s9))::r) [23] [0,1,2] (fun _ l=>l):=⟨⟩; have z1:LH (σ:=Bool) 102008 0 (fun s20 r=>(49,(.bool s20))::r) [49] [0,1,2,8,23] (fun _ l=>l):=⟨⟩; J [2008] func172 H
def wm (a0:Ptr) (a1:Int) (a2:Int) (K:kT Bool):hT:=cl prog oz [(pv a0),(.int .i64 a1),(.int .i64 a2)] jm fun r11=>br r11.isNone ( K false) ( nn r11 fun q16=>st (q16.1,q16.2 + 0) (an.C cm)<|K true)
theorem sim_tlb_Tlb_Flush (a0:Ptr) (a1:Int) (a2:Int) {K:kT Bool} {h:Hp} (H:wm a0 a1 a2 K h):cl prog mO [(pv a0),(.int .i64 a1),(.int .i64 a2)] ai K h:=J [] func124 H
def sh_tlb_Tlb_Find (a0:Ptr) (a1:Int) (a2:Int) (K:kT (an × Bool)):hT:=cl prog oz [(pv a0),(.int .i64 a1),(.int .i64 a2)] jm fun r12=>br r12.isNone ( K ((⟨0,0,0,0⟩:an),false)) ( nn r12 fun q17=>ld (q17.1,q17.2 + 0) an.C fun x19=>K (x19,true))
theorem sim_tlb_Tlb_Find (a0:Ptr) (a1:Int) (a2:Int) {K:kT (an × Bool)} {h:Hp} (H:sh_tlb_Tlb_Find a0 a1 a2 K h):cl prog oA [(pv a0),(.int .i64 a1),(.int .i64 a2)] eJ K h:=J [] func162 H
def tlb_Tlb_room_l1 (a0:Ptr) (a1:Int) (K:kT Ptr) (Rec2:kT (Ptr × Int)) (s1:Ptr × Int):hT:=br (decide (s1.2 < 2)) ( nn a0 fun q14=>gd (0 <= a1/\a1 < 4)<|gd (0 <= s1.2/\s1.2 < 2)<|ld (q14.1,q14.2 + 0 + Int.toNat a1 * 10 + Int.toNat s1.2 * 5 + 0 + 0) (cI .i64) fun x22=>br (decide (x22 < 0)) ( K (some (q14.1,q14.2 + 0 + Int.toNat a1 * 10 + Int.toNat s1.2 * 5))) ( br s1.1.isNone ( Rec2 ((some (q14.1,q14.2 + 0 + Int.toNat a1 * 10 + Int.toNat s1.2 * 5)),(i64.wrap (s1.2 + 1)))) ( nn s1.1 fun q33=>ld (q14.1,q14.2 + 0 + Int.toNat a1 * 10 + Int.toNat s1.2 * 5 + 4) (cI .i64) fun x31=>ld (q33.1,q33.2 + 4) (cI .i64) fun x35=>br (decide (x31 < x35)) ( Rec2 ((some (q14.1,q14.2 + 0 + Int.toNat a1 * 10 + Int.toNat s1.2 * 5)),(i64.wrap (s1.2 + 1)))) ( Rec2 (s1.1,(i64.wrap (s1.2 + 1))))))) ( K s1.1)
def sh_tlb_Tlb_room (a0:Ptr) (a1:Int) (K:kT Ptr):hT:=Lp (tlb_Tlb_room_l1 a0 a1 K) (none,0)
theorem sim_tlb_Tlb_room (a0:Ptr) (a1:Int) {K:kT Ptr} {h:Hp} (H:sh_tlb_Tlb_room a0 a1 K h):cl prog tE [(pv a0),(.int .i64 a1)] jm K h:=have z0:LH (σ:=Ptr × Int) 3 0 (fun s1 r=>(5,(pv s1.1))::(8,(.int .i64 s1.2))::r) [5,8] [0,1] (fun _ l=>l):=⟨⟩; have z1:OH 8 [0,4,8,12,16,20,25,28,32,36,41,44,48] .e []:=⟨⟩; J [] func197 H
def jE (a0:Ptr) (a1:an) (K:kT Bool) (s24:Ptr):hT:=nn a0 fun q60=>ld (q60.1,q60.2 + 40) (cI .i64) fun x62=>st (q60.1,q60.2 + 40) [.int .i64 (i64.wrap (x62 + 1))]<|ld (q60.1,q60.2 + 40) (cI .i64) fun x71=>nn s24 fun q73=>st (q73.1,q73.2) (bw.C (⟨a1,x71⟩:bw))<|K true
def sh_tlb_Tlb_Fill (a0:Ptr) (a1:an) (K:kT Bool):hT:=br ((a0.isNone || ((((((decide (a1.fBa < 0)) || (decide (a1.fBa >= 4))) || (decide (a1.fPa < 0))) || (decide (a1.fPa >= 8))) || (decide (a1.fEa < 0))) || (decide (a1.fEa >= 16)))) || (!(aS a1.fCa))) ( K false) ( cl prog oz [(pv a0),(.int .i64 a1.fBa),(.int .i64 a1.fPa)] jm fun r51=>ct (jE a0 a1 K)<|br r51.isNone ( cl prog tE [(pv a0),(.int .i64 (a1.fPa.tmod 4))] jm fun r58=>jE a0 a1 K r58) ( jE a0 a1 K r51))
theorem sim_tlb_Tlb_Fill (a0:Ptr) (a1:an) {K:kT Bool} {h:Hp} (H:sh_tlb_Tlb_Fill a0 a1 K h):cl prog oB [(pv a0),(.agg (an.C a1).toArray)] ai K h:=have z0:LH (σ:=Ptr) 100007 1 (fun s24 r=>(6,(pv s24))::r) [6] [0,3] (fun _ l=>l):=⟨⟩; have z1:OH 8 [0,4,8,12,16,21,24,28,34] .e []:=⟨⟩; J [7] func164 H
def vM (Rec4:kT (Sl × Int)) (s3:Sl × Int) (x17:jC) (Rec14:kT (Sl × Int)) (s13:Sl × Int):hT:=br (decide (s13.2 < 2)) ( hpv prog (Instr.index t_2_tlb_line (.agg (jC.C x17).toArray) (.int .i64 s13.2)) R_tlb_line fun (v20:bw)=>hpv prog (Instr.buildSlice qI 1 #[(0,(.agg (an.C v20.fl).toArray))]) im fun (v24:Sl)=>hpv prog (Builtin.append_ #[qI,qI] qI #[(sv s13.1),(sv v24)]) im fun (v25:Sl)=>Rec14 (v25,(i64.wrap (s13.2 + 1)))) ( Rec4 (s13.1,(i64.wrap (s3.2 + 1))))
def vN (a0:Ptr) (K:kT Sl) (Rec4:kT (Sl × Int)) (s3:Sl × Int):hT:=br (decide (s3.2 < 4)) ( nn a0 fun q14=>gd (0 <= s3.2/\s3.2 < 4)<|ld (q14.1,q14.2 + 0 + Int.toNat s3.2 * 10) jC.C fun x17=>Lp (vM Rec4 s3 x17) (s3.1,0)) ( K s3.1)
def wk (a0:Ptr) (K:kT Sl):hT:=br a0.isNone ( K (⟨none,0,0,none⟩:Sl)) ( Lp (vN a0 K) ((⟨none,0,0,none⟩:Sl),0))
theorem sim_tlb_Tlb_Lines (a0:Ptr) {K:kT Sl} {h:Hp} (H:wk a0 K h):cl prog mN [(pv a0)] im K h:=have z0:LH (σ:=Sl × Int) 5 0 (fun s3 r=>(3,(sv s3.1))::(9,(.int .i64 s3.2))::r) [3,9] [0] (fun _ l=>l):=⟨⟩; have z1:LH (σ:=Sl × Int) 8 0 (fun s13 r=>(3,(sv s13.1))::(18,(.int .i64 s13.2))::r) [3,18] [0,9,17] (fun _ l=>l):=⟨⟩; J [] func65 H
def wo (a0:Ptr) (a1:Int) (a2:Int) (K:kT Bool):hT:=br (!((((a0.isNone || (decide (a1 < 0))) || (decide (a1 >= 4))) || (decide (a2 < 0))) || (decide (a2 >= 2)))) ( nn a0 fun q29=>gd (0 <= a1/\a1 < 4)<|gd (0 <= a2/\a2 < 2)<|ld (q29.1,q29.2 + 0 + Int.toNat a1 * 10 + Int.toNat a2 * 5 + 0 + 0) (cI .i64) fun x35=>br (decide (x35 < 0)) ( K false) ( st (q29.1,q29.2 + 0 + Int.toNat a1 * 10 + Int.toNat a2 * 5 + 0) (an.C cm)<|K true)) ( K false)
theorem sim_tlb_Tlb_Evict (a0:Ptr) (a1:Int) (a2:Int) {K:kT Bool} {h:Hp} (H:wo a0 a1 a2 K h):cl prog rA [(pv a0),(.int .i64 a1),(.int .i64 a2)] ai K h:=have z0:OH 3 [0,4,8,16,20,24,14,28,32,38] .e []:=⟨⟩; J [] func108 H
end
section
open Go Mb
abbrev TL:=bw
theorem gN (p:TL):p.C.length = 5:=rfl
def dZ (x:Ptr) (t:List TL × Int):As:=fun h=>∃ b:Nat,(x = some (b,0)/\t.1.length = 8)/\ah [blk b pP ([]++(t.1.flatMap bw.C++[.int .i64 t.2]))] h
theorem mW {x:Ptr} {t:List TL × Int} {l:List As} {h:Hp} (s0:ah (dZ x t::l) h):∃ b,x = some (b,0)/\t.1.length = 8/\ah (blk b pP ([]++(t.1.flatMap bw.C++[.int .i64 t.2]))::l) h:=by
 obtain ⟨b,⟨hx,hb⟩,st⟩:=op_ s0;exact ⟨b,hx,hb,st⟩
theorem pO {b:Nat} {t:List TL × Int} {l:List As} {h:Hp} (hb:t.1.length = 8) (st:ah (blk b pP ([]++(t.1.flatMap bw.C++[.int .i64 t.2]))::l) h):ah (dZ (some (b,0)) t::l) h:=cl_ b ⟨rfl,hb⟩ st
namespace Tlb
abbrev line0:TL:=⟨⟨0,0,0,0⟩,0⟩
def ln (ls:List TL) (n:Nat):TL:=ls.getD n line0
def hit (ls:List TL) (e p:Int) (n:Nat):Prop:=(ln ls n).fl.fBa = e/\(ln ls n).fl.fPa = p
instance (ls:List TL) (e p:Int) (n:Nat):Decidable (hit ls e p n):=by unfold hit; infer_instance
def at_ (ls:List TL) (e p:Int):Option Nat :=
 if e < 0\/p < 0\/p >= 8 then none
 else if hit ls e p ((p.tmod 4).toNat * 2) then some ((p.tmod 4).toNat * 2) else if hit ls e p ((p.tmod 4).toNat * 2 + 1) then some ((p.tmod 4).toNat * 2 + 1) else none
def find (ls:List TL) (e p:Int):an × Bool:=match at_ ls e p with | some n=>((ln ls n).fl,true) | none=>(⟨0,0,0,0⟩,false)
def flush (t:List TL × Int) (e p:Int):Bool × List TL × Int:=match at_ t.1 e p with | some n=>(true,t.1.set n { ln t.1 n with fl:=cm },t.2) | none=>(false,t)
def evict (t:List TL × Int) (s w:Int):Bool × List TL × Int :=
 if s < 0\/s >= 4\/w < 0\/w >= 2 then (false,t) else if (ln t.1 (s.toNat * 2 + w.toNat)).fl.fBa < 0 then (false,t) else (true,t.1.set (s.toNat * 2 + w.toNat) { ln t.1 (s.toNat * 2 + w.toNat) with fl:=cm },t.2)
theorem at_lt {ls:List TL} {e p:Int} {n:Nat} (h:at_ ls e p = some n):n < 8:=by
 unfold at_ at h;split at h
 ·cases h
 ·rename_i h0;have:(p.tmod 4).toNat < 4:=by
   obtain ⟨q,rfl⟩:=eq_ofNat_of_zero_le (show 0 <= p by omega);rw [show ((4:Int)) = ((4:Nat):Int) from rfl,← Int.ofNat_tmod];simp; omega
  split at h
  ·cases h; omega
  ·split at h
   ·cases h; omega
   ·cases h
end Tlb
def yc (b:Nat) (o:Option Nat):Ptr:=o.map fun n=>(b,n * 5)
theorem ln_get {ls:List TL} {n:Nat} (h:n < ls.length):Tlb.ln ls n = ls[n]:=by simp [Tlb.ln,h]
theorem sp_tlb_at (b:Nat) (t:List TL × Int) (e p:Int) (hb:t.1.length = 8):Sp prog oz [pv (some (b,0)),.int .i64 e,.int .i64 p] jm [dZ (some (b,0)) t] (fun r=>pa_ (r = yc b (Tlb.at_ t.1 e p)) [dZ (some (b,0)) t]):=by
 intro h s0;obtain ⟨b',hb',_,st⟩:=mW s0;cases hb';refine sim_tlb_Tlb_at _ _ _ ?_;unfold sh_tlb_Tlb_at;refine ar (fun k=>?_) (fun k=>?_)
 ·have k':e < 0\/p < 0\/p >= 8:=by simpa [or_assoc] using k
  have e1:Tlb.at_ t.1 e p = none:=if_pos k';rw [e1];exact aw rfl (pO hb st)
 ·have k':¬ (e < 0\/p < 0\/p >= 8):=by simp at k; omega
  obtain ⟨q,rfl⟩:=eq_ofNat_of_zero_le (show 0 <= p by omega);have hm:((q:Int).tmod 4) = ((q % 4:Nat):Int):=by rw [show ((4:Int)) = ((4:Nat):Int) from rfl,← Int.ofNat_tmod]
  have hq4:q % 4 < 4:=Nat.mod_lt _ (by omega);have e1:Tlb.at_ t.1 e q = if Tlb.hit t.1 e q (q % 4 * 2) then some (q % 4 * 2) else if Tlb.hit t.1 e q (q % 4 * 2 + 1) then some (q % 4 * 2 + 1) else none:=by
   unfold Tlb.at_; rw [if_neg k',hm,Int.toNat_natCast]
  refine Lp.intro (fun (w:Int) h=>∃ n:Nat,w = n/\n <= 2/\(∀ m,m < n->¬ Tlb.hit t.1 e q (q % 4 * 2 + m))/\ah [dZ (some (b,0)) t] h) (fun (w:Int) _=>2 - w.toNat) ⟨0,rfl,by omega,by intro m hm; omega,pO hb st⟩ ?_;rintro w h ⟨n,rfl,hn,hno,s1⟩;unfold tlb_Tlb_at_l1;refine ar (fun k2=>?_) (fun k2=>?_)
  ·have hlt:n < 2:=by have:=of_decide_eq_true k2; omega
   obtain ⟨b',hb',_,s2⟩:=mW s1;cases hb';have hi:q % 4 * 2 + n < t.1.length:=by rw [hb]; omega
   have hw:i64.wrap ((n:Int) + 1) = ((n + 1:Nat):Int):=by rw [aE (by omega) (by omega)]; rfl
   rw [hm];refine bn ⟨⟨by omega,by omega⟩,⟨by omega,by omega⟩,?_⟩;have next:¬ Tlb.hit t.1 e q (q % 4 * 2 + n)->∀ h,ah [dZ (some (b,0)) t] h ->
     (∃ m:Nat,i64.wrap ((n:Int) + 1) = m/\m <= 2/\(∀ k,k < m->¬ Tlb.hit t.1 e q (q % 4 * 2 + k))/\ah [dZ (some (b,0)) t] h)/\2 - (i64.wrap ((n:Int) + 1)).toNat < 2 - (n:Int).toNat:=by
    intro hnot h s;rw [hw];refine ⟨⟨n + 1,rfl,hlt,fun k hk=>?_,s⟩,by simp; omega⟩;by_cases hkn:k = n
    ·subst hkn; exact hnot
    ·exact hno k (by omega)
   refine ld_a (j:=0) (i:=q % 4 * 2 + n) (k:=0) t.1[q % 4 * 2 + n].fl.fBa gN s2 rfl (by simp; omega) (al hi) (c1 rfl rfl) ?_;refine ar (fun k3=>?_) (fun k3=>?_)
   ·refine ld_a (j:=0) (i:=q % 4 * 2 + n) (k:=1) t.1[q % 4 * 2 + n].fl.fPa gN s2 rfl (by simp; omega) (al hi) (c1 rfl rfl) ?_;unfold mE;refine ar (fun k4=>?_) (fun k4=>?_)
    ·have hh:Tlb.hit t.1 e q (q % 4 * 2 + n):=by
      unfold Tlb.hit; rw [ln_get hi]; exact ⟨by simpa using k3,by simpa using k4⟩
     refine aw ?_ s1;rw [e1];have hn01:n = 0\/n = 1:=by omega
     rcases hn01 with rfl | rfl
     ·rw [add_zero] at hh; rw [if_pos hh]; simp [yc,hm]; omega
     ·have:=hno 0 (by omega); rw [add_zero] at this; rw [if_neg this,if_pos hh]; simp [yc,hm]; omega
    ·exact next (by unfold Tlb.hit; rw [ln_get hi]; intro hh; simp [hh.2] at k4) h s1
   ·unfold mE;refine bB rfl ?_;exact next (by unfold Tlb.hit; rw [ln_get hi]; intro hh; simp [hh.1] at k3) h s1
  ·have hn2:n = 2:=by have:=of_decide_eq_false k2; omega
   subst hn2;refine aw ?_ s1;have h0:=hno 0 (by omega);have h1:=hno 1 (by omega);rw [add_zero] at h0;rw [e1,if_neg h0,if_neg h1]
   rfl
theorem sp_tlb_Find (x:Ptr) (t:List TL × Int) (e p:Int):Sp prog oA [pv x,.int .i64 e,.int .i64 p] eJ [dZ x t] (fun r=>pa_ (r = Tlb.find t.1 e p) [dZ x t]):=by
 intro h s0;obtain ⟨b,rfl,hb,st⟩:=mW s0;refine sim_tlb_Tlb_Find _ _ _ ?_;unfold sh_tlb_Tlb_Find;refine bG [0] (sp_tlb_at b t e p hb) s0 rfl fun r h' s1=>?_;obtain ⟨hr,s2⟩:=aM.1 s1;unfold Tlb.find;cases ho:Tlb.at_ t.1 e p with
 | none =>
  rw [ho] at hr; subst hr;exact cg rfl (aw rfl s2)
 | some n =>
  rw [ho] at hr; subst hr;have hn:n < t.1.length:=by rw [hb]; exact Tlb.at_lt ho
  obtain ⟨b',hb',_,s3⟩:=mW s2;cases hb';refine bB rfl (bn ?_);refine ld_a (j:=0) (i:=n) (k:=0) t.1[n].fl gN s3 rfl (by simp) (al hn) ?_ ?_
  ·intro m v hv;rw [Nat.zero_add];have:m < 4:=(List.getElem?_eq_some_iff.1 hv).1
   match m,this with
   | 0,_=>exact hv
   | 1,_=>exact hv
   | 2,_=>exact hv
   | 3,_=>exact hv
  ·refine aw ?_ (pO hb s3);show _ = ((Tlb.ln t.1 n).fl,true)
   rw [ln_get hn]
theorem sp_tlb_Flush (x:Ptr) (t:List TL × Int) (e p:Int):Sp prog mO [pv x,.int .i64 e,.int .i64 p] ai [dZ x t] (fun r=>pa_ (r = (Tlb.flush t e p).1) [dZ x (Tlb.flush t e p).2]):=by
 intro h s0;obtain ⟨b,rfl,hb,st⟩:=mW s0;refine sim_tlb_Tlb_Flush _ _ _ ?_;unfold wm;refine bG [0] (sp_tlb_at b t e p hb) s0 rfl fun r h' s1=>?_;obtain ⟨hr,s2⟩:=aM.1 s1;cases ho:Tlb.at_ t.1 e p with
 | none =>
  rw [ho] at hr; subst hr;have e1:Tlb.flush t e p = (false,t):=by unfold Tlb.flush; rw [ho]
  rw [e1];exact cg rfl (aw rfl s2)
 | some n =>
  rw [ho] at hr; subst hr;have hn:n < t.1.length:=by rw [hb]; exact Tlb.at_lt ho
  have e1:Tlb.flush t e p = (true,t.1.set n { t.1[n] with fl:=cm },t.2):=by unfold Tlb.flush; rw [ho,← ln_get hn]
  rw [e1];obtain ⟨b',hb',_,s3⟩:=mW s2;cases hb';refine bB rfl (bn ?_);refine st_a (j:=0) (i:=n) (k:=0) { t.1[n] with fl:=cm } gN s3 rfl (by simp) (al hn) (by simp [an.C]) rfl fun h2 s4=>?_;exact aw rfl (pO (t:=(t.1.set n { t.1[n] with fl:=cm },t.2)) (by simpa using hb) s4)
namespace Tlb
def room (ls:List TL) (a:Nat):Nat :=
 if (ln ls a).fl.fBa < 0 then a else if (ln ls (a + 1)).fl.fBa < 0 then a + 1 else if (ln ls (a + 1)).fwhen < (ln ls a).fwhen then a + 1 else a
end Tlb
theorem sp_tlb_room (b:Nat) (t:List TL × Int) (s:Nat) (hs:s < 4) (hb:t.1.length = 8):Sp prog tE [pv (some (b,0)),.int .i64 s] jm [dZ (some (b,0)) t] (fun r=>pa_ (r = yc b (some (Tlb.room t.1 (s * 2)))) [dZ (some (b,0)) t]):=by
 intro h s0;refine sim_tlb_Tlb_room _ _ ?_;unfold sh_tlb_Tlb_room;have w1:i64.wrap (((0:Nat):Int) + 1) = 1:=by rw [aE (by omega) (by omega)]; rfl
 have w2:i64.wrap ((1:Int) + 1) = 2:=by rw [aE (by omega) (by omega)]; rfl
 have h0:s * 2 < t.1.length:=by omega
 have h1:s * 2 + 1 < t.1.length:=by omega
 have l0:=ln_get h0;have l1:=ln_get h1;refine Lp.intro (fun (z:Ptr × Int) h=>((z = (none,0))\/(z = (some (b,s * 2 * 5),1)/\¬ (t.1[s * 2]).fl.fBa < 0)\/(z.2 = 2/\z.1 = yc b (some (Tlb.room t.1 (s * 2)))))/\ah [dZ (some (b,0)) t] h) (fun (z:Ptr × Int) _=>2 - z.2.toNat) ⟨.inl rfl,s0⟩ ?_;rintro ⟨z,i⟩ h ⟨hz,s1⟩;obtain ⟨b',hb',_,s2⟩:=mW s1;cases hb';unfold tlb_Tlb_room_l1;rcases hz with hz | ⟨hz,hne⟩ | ⟨hz1,hz2⟩
 ·cases hz;refine cg rfl (bn ⟨⟨by omega,by omega⟩,⟨by omega,by omega⟩,?_⟩);refine ld_a (j:=0) (i:=s * 2) (k:=0) t.1[s * 2].fl.fBa gN s2 rfl (by simp; omega) (al h0) (c1 rfl rfl) ?_;refine ar (fun k=>?_) (fun k=>?_)
  ·have k':t.1[s * 2].fl.fBa < 0:=by simpa using k
   refine aw ?_ s1;unfold Tlb.room;rw [l0,if_pos k'];simp [yc]; omega
  ·have k':¬ t.1[s * 2].fl.fBa < 0:=by simpa using k
   refine cg rfl ?_;refine ⟨⟨.inr (.inl ⟨?_,k'⟩),s1⟩,?_⟩
   ·show (some (b,0 + 0 + (s:Int).toNat * 10 + (0:Int).toNat * 5),i64.wrap ((0:Int) + 1)) = _;have:i64.wrap ((0:Int) + 1) = 1:=w1;rw [this];simp; omega
   ·have:i64.wrap ((0:Int) + 1) = 1:=w1;show 2 - (i64.wrap ((0:Int) + 1)).toNat < _;rw [this]; decide
 ·cases hz;refine cg rfl (bn ⟨⟨by omega,by omega⟩,⟨by omega,by omega⟩,?_⟩);refine ld_a (j:=0) (i:=s * 2 + 1) (k:=0) t.1[s * 2 + 1].fl.fBa gN s2 rfl (by simp; omega) (al h1) (c1 rfl rfl) ?_;refine ar (fun k=>?_) (fun k=>?_)
  ·have k':t.1[s * 2 + 1].fl.fBa < 0:=by simpa using k
   refine aw ?_ s1;unfold Tlb.room;rw [l0,l1,if_neg hne,if_pos k'];simp [yc]; omega
  ·have k':¬ t.1[s * 2 + 1].fl.fBa < 0:=by simpa using k
   refine bB rfl (bn ?_);refine ld_a (j:=0) (i:=s * 2 + 1) (k:=4) t.1[s * 2 + 1].fwhen gN s2 rfl (by simp; omega) (al h1) (c1 rfl rfl) ?_;refine ld_a (j:=0) (i:=s * 2) (k:=4) t.1[s * 2].fwhen gN s2 rfl (by simp) (al h0) (c1 rfl rfl) ?_;refine ar (fun k2=>?_) (fun k2=>?_)
   ·have k2':t.1[s * 2 + 1].fwhen < t.1[s * 2].fwhen:=by simpa using k2
    refine ⟨⟨.inr (.inr ⟨w2,?_⟩),s1⟩,by show 2 - (i64.wrap ((1:Int) + 1)).toNat < _; rw [w2]; simp⟩;unfold Tlb.room;rw [l0,l1,if_neg hne,if_neg k',if_pos k2'];simp [yc]; omega
   ·have k2':¬ t.1[s * 2 + 1].fwhen < t.1[s * 2].fwhen:=by simpa using k2
    refine ⟨⟨.inr (.inr ⟨w2,?_⟩),s1⟩,by show 2 - (i64.wrap ((1:Int) + 1)).toNat < _; rw [w2]; simp⟩;unfold Tlb.room;rw [l0,l1,if_neg hne,if_neg k',if_neg k2'];simp [yc]
 ·simp only at hz1 hz2;subst hz1;exact bB rfl (aw hz2 s1)
namespace Tlb
def bad (a:an):Prop:=a.fBa < 0\/a.fBa >= 4\/a.fPa < 0\/a.fPa >= 8\/a.fEa < 0\/a.fEa >= 16\/aS a.fCa = false
instance (a:an):Decidable (bad a):=by unfold bad; infer_instance
def place (ls:List TL) (a:an):Nat:=match at_ ls a.fBa a.fPa with | some n=>n | none=>room ls ((a.fPa.tmod 4).toNat * 2)
def fill (t:List TL × Int) (a:an):Bool × List TL × Int :=
 if bad a then (false,t) else (true,t.1.set (place t.1 a) ⟨a,i64.wrap (t.2 + 1)⟩,i64.wrap (t.2 + 1))
def clr (c:TL):TL:={ c with fl:=cm }
def clear (t:List TL × Int):List TL × Int:=(t.1.map clr,t.2)
end Tlb
theorem tmod4 {p:Int} (h0:0 <= p):∃ q:Nat,p.tmod 4 = q/\q < 4:=by
 obtain ⟨q,rfl⟩:=eq_ofNat_of_zero_le h0;exact ⟨q % 4,by rw [show ((4:Int)) = ((4:Nat):Int) from rfl,← Int.ofNat_tmod],Nat.mod_lt _ (by omega)⟩
theorem room_lt (ls:List TL) (a:Nat):Tlb.room ls a <= a + 1:=by
 unfold Tlb.room; split <;> (try split) <;> (try split) <;> omega
theorem sp_tlb_Fill (x:Ptr) (t:List TL × Int) (a:an):Sp prog oB [pv x,.agg a.C.toArray] ai [dZ x t] (fun r=>pa_ (r = (Tlb.fill t a).1) [dZ x (Tlb.fill t a).2]):=by
 intro h s0;obtain ⟨b,rfl,hb,st⟩:=mW s0;refine sim_tlb_Tlb_Fill _ _ ?_;unfold sh_tlb_Tlb_Fill;refine ar (fun k=>?_) (fun k=>?_)
 ·have k':Tlb.bad a:=by simpa [Tlb.bad,or_assoc] using k
  have e1:Tlb.fill t a = (false,t):=if_pos k';rw [e1];exact aw rfl (pO hb st)
 ·have k':¬ Tlb.bad a:=by
   unfold Tlb.bad;simp at k;obtain ⟨⟨⟨⟨⟨⟨c1,c2⟩,c3⟩,c4⟩,c5⟩,c6⟩,c7⟩:=k;simp [c7]; omega
  have e1:Tlb.fill t a = (true,t.1.set (Tlb.place t.1 a) ⟨a,i64.wrap (t.2 + 1)⟩,i64.wrap (t.2 + 1)):=if_neg k';rw [e1];have fin:∀ (n:Nat) (h:Hp),n = Tlb.place t.1 a->n < 8->ah [dZ (some (b,0)) t] h->jE (some (b,0)) a (fun r=>pa_ (r = true) [dZ (some (b,0)) (t.1.set (Tlb.place t.1 a) ⟨a,i64.wrap (t.2 + 1)⟩,i64.wrap (t.2 + 1))]) (some (b,n * 5)) h:=by
   intro n h hn hlt s1;obtain ⟨b',hb',_,s2⟩:=mW s1;cases hb';have hn':n < t.1.length:=by omega
   have hfl:(t.1.flatMap bw.C).length = 40:=by rw [bR gN,hb]
   have kG:([]++(t.1.flatMap bw.C++[Value.int .i64 t.2]))[0 + 40]? = some (.int .i64 t.2):=by
    rw [nil_append,List.getElem?_append_right (by omega),hfl]; rfl
   unfold jE;refine bn (aJ t.2 s2 (i:=0) rfl rfl kG ?_);refine mX (i:=0) s2 rfl (by simp [hfl]) fun h3 s3=>?_;have ew:wr ([]++(t.1.flatMap bw.C++[Value.int .i64 t.2])) (0 + 40) [.int .i64 (i64.wrap (t.2 + 1))] = []++(t.1.flatMap bw.C++[Value.int .i64 (i64.wrap (t.2 + 1))]):=by
    rw [nil_append,nil_append,show 0 + 40 = (t.1.flatMap bw.C).length + 0 from by rw [hfl],qC]; rfl
   have s4:ah [blk b pP ([]++(t.1.flatMap bw.C++[Value.int .i64 (i64.wrap (t.2 + 1))]))] h3:=by rw [← ew]; exact s3
   have hcell2:([]++(t.1.flatMap bw.C++[Value.int .i64 (i64.wrap (t.2 + 1))]))[0 + 40]? = some (.int .i64 (i64.wrap (t.2 + 1))):=by
    rw [nil_append,List.getElem?_append_right (by omega),hfl]; rfl
   refine aJ (i64.wrap (t.2 + 1)) s4 (i:=0) rfl rfl hcell2 ?_;refine bn ?_;refine st_a (j:=0) (i:=n) (k:=0) (⟨a,i64.wrap (t.2 + 1)⟩:TL) gN s4 rfl (by simp) (al hn') (by simp [gN]) rfl fun h5 s5=>?_;subst hn;exact aw rfl (pO (t:=(t.1.set (Tlb.place t.1 a) ⟨a,i64.wrap (t.2 + 1)⟩,i64.wrap (t.2 + 1))) (by simpa using hb) s5)
  refine bG [0] (sp_tlb_at b t a.fBa a.fPa hb) s0 rfl fun r h' s1=>?_;obtain ⟨hr,s2⟩:=aM.1 s1;cases ho:Tlb.at_ t.1 a.fBa a.fPa with
  | none =>
   rw [ho] at hr; subst hr;refine cg rfl ?_;obtain ⟨q,hq,hq4⟩:=tmod4 (p:=a.fPa) (by unfold Tlb.bad at k'; omega);rw [hq];refine bG [0] (sp_tlb_room b t q hq4 hb) s2 rfl fun r h' s3=>?_;obtain ⟨hr,s4⟩:=aM.1 s3;subst hr;have hp:Tlb.room t.1 (q * 2) = Tlb.place t.1 a:=by unfold Tlb.place; rw [ho,hq,Int.toNat_natCast]
   exact fin _ _ hp (by have:=room_lt t.1 (q * 2); omega) s4
  | some n =>
   rw [ho] at hr; subst hr;refine bB rfl ?_;exact fin _ _ (by unfold Tlb.place; rw [ho]) (Tlb.at_lt ho) s2
theorem tlb_clear_take (ls:List TL) (n:Nat) (hn:n < ls.length):(((ls.take n).map Tlb.clr)++ls.drop n).set n (Tlb.clr ls[n]) = ((ls.take (n + 1)).map Tlb.clr)++ls.drop (n + 1):=by
 have h1:ls.drop n = ls[n]::ls.drop (n + 1):=List.drop_eq_getElem_cons hn;have h2:ls.take (n + 1) = ls.take n++[ls[n]]:=by simp
 rw [h2,List.map_append,List.set_append_right _ _ (by simp; omega)];have:n - ((ls.take n).map Tlb.clr).length = 0:=by simp; omega
 rw [this,h1,List.append_assoc]
 rfl
theorem sp_tlb_Clear (x:Ptr) (t:List TL × Int):Sp prog rB [pv x] R_ [dZ x t] (fun _=>ah [dZ x (Tlb.clear t)]):=by
 intro h s0;obtain ⟨b,rfl,hb,st⟩:=mW s0;refine sim_tlb_Tlb_Clear _ ?_;unfold wq;refine bB rfl ?_;have mid:∀ n:Nat,n <= 8->((((t.1.take n).map Tlb.clr)++t.1.drop n)).length = 8:=by intro n hn; simp; omega
 refine Lp.intro (fun (i:Int) h=>∃ n:Nat,i = n/\n <= 4/\ah [dZ (some (b,0)) (((t.1.take (n * 2)).map Tlb.clr)++t.1.drop (n * 2),t.2)] h) (fun (i:Int) _=>4 - i.toNat) ⟨0,rfl,by omega,by simpa using pO hb st⟩ ?_;rintro i h ⟨n,rfl,hn,s1⟩;unfold vS;refine ar (fun k=>?_) (fun k=>?_)
 ·have hlt:n < 4:=by have:=of_decide_eq_true k; omega
  refine Lp.intro (fun (j:Int) h=>∃ m:Nat,j = m/\m <= 2/\ah [dZ (some (b,0)) (((t.1.take (n * 2 + m)).map Tlb.clr)++t.1.drop (n * 2 + m),t.2)] h) (fun (j:Int) _=>2 - j.toNat) ⟨0,rfl,by omega,s1⟩ ?_;rintro j h ⟨m,rfl,hm,s2⟩;unfold vO;refine ar (fun k2=>?_) (fun k2=>?_)
  ·have hlt2:m < 2:=by have:=of_decide_eq_true k2; omega
   have hw:i64.wrap ((m:Int) + 1) = ((m + 1:Nat):Int):=by rw [aE (by omega) (by omega)]; rfl
   have hi:n * 2 + m < t.1.length:=by omega
   obtain ⟨b',hb',_,s3⟩:=mW s2;cases hb';refine bn ⟨⟨by omega,by omega⟩,⟨by omega,by omega⟩,?_⟩;have hget:(((t.1.take (n * 2 + m)).map Tlb.clr)++t.1.drop (n * 2 + m))[n * 2 + m]? = some t.1[n * 2 + m]:=by
    rw [List.getElem?_append_right (by simp; omega)];have:n * 2 + m - ((t.1.take (n * 2 + m)).map Tlb.clr).length = 0:=by simp; omega
    rw [this,List.getElem?_drop];exact al hi
   refine st_a (j:=0) (i:=n * 2 + m) (k:=0) (Tlb.clr t.1[n * 2 + m]) gN s3 rfl (by simp; omega) hget (by simp [an.C]) rfl fun h2 s4=>?_;rw [hw];refine ⟨⟨m + 1,rfl,hlt2,?_⟩,by simp; omega⟩;have:=tlb_clear_take t.1 (n * 2 + m) hi;have s5:=pO (t:=((((t.1.take (n * 2 + m)).map Tlb.clr)++t.1.drop (n * 2 + m)).set (n * 2 + m) (Tlb.clr t.1[n * 2 + m]),t.2)) (by simp; omega) s4;rw [this] at s5;exact s5
  ·have hm2:m = 2:=by have:=of_decide_eq_false k2; omega
   subst hm2;have hw:i64.wrap ((n:Int) + 1) = ((n + 1:Nat):Int):=by rw [aE (by omega) (by omega)]; rfl
   rw [hw];exact ⟨⟨n + 1,rfl,hlt,by rw [show (n + 1) * 2 = n * 2 + 2 from by omega]; exact s2⟩,by simp; omega⟩
 ·have hn4:n = 4:=by have:=of_decide_eq_false k; omega
  subst hn4;have e:(((t.1.take (4 * 2)).map Tlb.clr)++t.1.drop (4 * 2),t.2) = Tlb.clear t:=by
   unfold Tlb.clear;rw [show 4 * 2 = t.1.length from by rw [hb],take_length,List.drop_length,List.append_nil]
  rw [e] at s1;exact s1
theorem tlb_new_run (K:Value->Hp->Prop) (h:Hp):hp prog (Instr.build pP #[]) K h = K (.agg (((replicate 8 Tlb.line0).flatMap bw.C++[Value.int .i64 0])).toArray) h:=by kernel_rfl
abbrev tlb0:List TL × Int:=(replicate 8 ⟨⟨-1,0,0,0⟩,0⟩,0)
theorem xh:Sp prog gS [] fG [] (fun r=>ah [dZ r tlb0]):=by
 intro h st;refine sim_tlb_New ?_;unfold sh_tlb_New;refine ⟨?_⟩;rw [tlb_new_run];refine ⟨_,rfl,?_⟩;refine nP st fun b h' s1=>?_;have s2:=pO (t:=(replicate 8 Tlb.line0,0)) rfl s1;refine bG [0] (sp_tlb_Clear (some (b,0)) _) s2 rfl fun r h' s3=>?_;exact bT s3
abbrev vL (s:Sl) (xs:List an):As:=vec t_api_Line 4 an.C s xs
theorem line_len (p:an):p.C.length = 4:=rfl
theorem line_one (p:an):ce p.C = true:=rfl
def Tlb.lines (t:List TL × Int):List an:=t.1.map (·.fl)
theorem sp_tlb_Lines (x:Ptr) (t:List TL × Int):Sp prog mN [pv x] im [dZ x t] (fun r=>ah [vL r (Tlb.lines t),dZ x t]):=by
 intro h s0;obtain ⟨b,rfl,hb,st⟩:=mW s0;refine sim_tlb_Tlb_Lines _ ?_;unfold wk;refine bB rfl ?_;refine Lp.intro (fun (z:Sl × Int) h=>∃ n:Nat,z.2 = n/\n <= 4/\ah [vL z.1 ((t.1.take (n * 2)).map (·.fl)),dZ (some (b,0)) t] h) (fun (z:Sl × Int) _=>4 - z.2.toNat) ⟨0,rfl,by omega,dp (pO hb st)⟩ ?_;rintro ⟨z,i⟩ h ⟨n,rfl,hn,s1⟩;unfold vN;refine ar (fun k=>?_) (fun k=>?_)
 ·have hlt:n < 4:=by have:=of_decide_eq_true k; omega
  have h0:n * 2 < t.1.length:=by omega
  have h1:n * 2 + 1 < t.1.length:=by omega
  obtain ⟨b',hb',_,s2⟩:=mW (aA [1] s1 rfl);cases hb';refine bn ⟨⟨by omega,by omega⟩,?_⟩;refine ld_s (⟨t.1[n * 2],t.1[n * 2 + 1]⟩:jC) s2 (i:=0) rfl ?_ ?_
  ·intro j v hv;have hfl:(t.1.flatMap bw.C).length = 40:=by rw [bR gN,hb]
   have hsp:jC.C ⟨t.1[n * 2],t.1[n * 2 + 1]⟩ = (t.1[n * 2]).C++(t.1[n * 2 + 1]).C:=rfl;rw [hsp] at hv;have hj:j < 10:=by have:=(List.getElem?_eq_some_iff.1 hv).1; simpa [gN] using this
   have key:(t.1.flatMap bw.C)[n * 10 + j]? = some v:=by
    by_cases h5:j < 5
    ·rw [List.getElem?_append_left (by simpa [gN] using h5)] at hv;have:=mK gN t.1 (n * 2) j _ v (al h0) hv;rw [show n * 10 + j = n * 2 * 5 + j from by omega]; exact this
    ·rw [List.getElem?_append_right (by simp [gN]; omega),gN] at hv;have:=mK gN t.1 (n * 2 + 1) (j - 5) _ v (al h1) hv;rw [show n * 10 + j = (n * 2 + 1) * 5 + (j - 5) from by omega]; exact this
   have hlt':=(List.getElem?_eq_some_iff.1 key).1;rw [nil_append,show (b,0).2 + 0 + (n:Int).toNat * 10 + j = n * 10 + j from by simp,List.getElem?_append_left hlt'];exact key
  ·refine Lp.intro (fun (z:Sl × Int) h=>∃ m:Nat,z.2 = m/\m <= 2/\ah [vL z.1 ((t.1.take (n * 2 + m)).map (·.fl)),dZ (some (b,0)) t] h) (fun (z:Sl × Int) _=>2 - z.2.toNat) ⟨0,rfl,by omega,s1⟩ ?_;rintro ⟨y,j⟩ h ⟨m,rfl,hm,s3⟩;unfold vM;refine ar (fun k2=>?_) (fun k2=>?_)
   ·have hlt2:m < 2:=by have:=of_decide_eq_true k2; omega
    have hw:i64.wrap ((m:Int) + 1) = ((m + 1:Nat):Int):=by rw [aE (by omega) (by omega)]; rfl
    have hi:n * 2 + m < t.1.length:=by omega
    have hget:[t.1[n * 2],t.1[n * 2 + 1]][m]? = some t.1[n * 2 + m]:=by
     have:m = 0\/m = 1:=by omega
     rcases this with rfl | rfl <;> rfl
    refine index_v (enc:=bw.C) (m:=5) (xs:=[t.1[n * 2],t.1[n * 2 + 1]]) arn_2_tlb_line age_2_tlb_line gN (fun _=>rfl) rfl hget ?_;have hlen:(((t.1.take (n * 2 + m)).map (·.fl)):List an).length <= 8:=by simp; omega
    refine iX (τ:=an) (i:=0) (enc:=an.C) (val:=fun x=>.agg x.C.toArray) el_Sapi_Line line_len line_one (fun _=>rfl) (by omega) rfl rfl s3 rfl (by omega) (by omega) fun v h' s4=>?_;rw [hw];refine ⟨⟨m + 1,rfl,hlt2,?_⟩,by simp; omega⟩;have ht:t.1.take (n * 2 + (m + 1)) = t.1.take (n * 2 + m)++[t.1[n * 2 + m]]:=by rw [← Nat.add_assoc]; simp
    rw [ht,List.map_append];exact s4
   ·have hm2:m = 2:=by have:=of_decide_eq_false k2; omega
    subst hm2;have hw:i64.wrap ((n:Int) + 1) = ((n + 1:Nat):Int):=by rw [aE (by omega) (by omega)]; rfl
    rw [hw];exact ⟨⟨n + 1,rfl,hlt,by rw [show (n + 1) * 2 = n * 2 + 2 from by omega]; exact s3⟩,by simp; omega⟩
 ·have hn4:n = 4:=by have:=of_decide_eq_false k; omega
  subst hn4;rw [show t.1.take (4 * 2) = t.1 from by rw [show 4 * 2 = t.1.length from by rw [hb]]; exact take_length] at s1;exact s1
end
section
open Go Mb
attribute [local irreducible] bM gR il Val Tx Tu Tn RV Res br nn ix gd ld st nw cl clv dL Lp ct
def sh_user_Walk (a0:Ptr) (a1:Ptr) (a2:Int) (a3:Int) (a4:Int) (K:kT (an × Bool)):hT:=cl prog oA [(pv a0),(.int .i64 a2),(.int .i64 a3)] eJ fun r21=>br (r21.2 && (bk r21.1.fCa a4)) ( K (r21.1,true)) ( cl prog dR [(pv a1),(.int .i64 a3)] bA fun r35=>br (!(bk r35.1.fCa a4)) ( cl prog mO [(pv a0),(.int .i64 a2),(.int .i64 a3)] ai fun r46=>K ((⟨0,0,0,0⟩:an),false)) ( cl prog oB [(pv a0),(.agg (an.C (⟨a2,a3,r35.1.fEa,r35.1.fCa⟩:an)).toArray)] ai fun r57=>K ((⟨a2,a3,r35.1.fEa,r35.1.fCa⟩:an),true)))
theorem sim_user_Walk (a0:Ptr) (a1:Ptr) (a2:Int) (a3:Int) (a4:Int) {K:kT (an × Bool)} {h:Hp} (H:sh_user_Walk a0 a1 a2 a3 a4 K h):cl prog uN [(pv a0),(pv a1),(.int .i64 a2),(.int .i64 a3),(.int .i64 a4)] eJ K h:=J [] func120 H
def sh_user_touch (a0:Ptr) (a1:Int) (a2:aa) (K:kT ad):hT:=br ((i64.wrap a2.e0) == 20) ( cl prog gx [(pv a0),(.int .i64 a1),(.int .i64 (i64.wrap a2.e2))] aU fun r21=>K (⟨0,r21.1⟩:ad)) ( br ((i64.wrap a2.e0) == 21) ( cl prog eH [(pv a0),(.int .i64 a1),(.int .i64 (i64.wrap a2.e2)),(.int .u64 a2.e3)] ai fun r31=>K (⟨0,0⟩:ad)) ( br ((i64.wrap a2.e0) == 22) ( cl prog qt [(pv a0),(.int .i64 a1),(.int .i64 (i64.wrap a2.e2)),(.int .u64 a2.e3),(.int .u64 a2.e4)] aU fun r42=>K (⟨0,r42.1⟩:ad)) ( br ((i64.wrap a2.e0) == 23) ( cl prog qu [(pv a0),(.int .i64 a1),(.int .i64 (i64.wrap a2.e2)),(.int .u64 a2.e3)] aU fun r53=>K (⟨0,r53.1⟩:ad)) ( K (⟨0,0⟩:ad)))))
theorem sim_user_touch (a0:Ptr) (a1:Int) (a2:aa) {K:kT ad} {h:Hp} (H:sh_user_touch a0 a1 a2 K h):cl prog xR [(pv a0),(.int .i64 a1),(.agg (aa.C a2).toArray)] gb K h:=J [] func185 H
def pN (a0:Ptr) (a1:Ptr) (a2:Ptr) (a3:Int) (a4:aa) (K:kT (ad × an)) (s2:Int):hT:=br (s2 != 0) ( K ((⟨s2,0⟩:ad),(⟨0,0,0,0⟩:an))) ( cl prog uN [(pv a0),(pv a1),(.int .i64 a3),(.int .i64 (i64.wrap a4.e1)),(.int .i64 ((am a4).1))] eJ fun r48=>br (!r48.2) ( K ((⟨7,0⟩:ad),(⟨0,0,0,0⟩:an))) ( cl prog xR [(pv a2),(.int .i64 r48.1.fEa),(.agg (aa.C a4).toArray)] gb fun r59=>K (r59,r48.1)))
def sh_user_Do (a0:Ptr) (a1:Ptr) (a2:Ptr) (a3:Int) (a4:aa) (K:kT (ad × an)):hT:=cl prog fT [(.agg (aa.C a4).toArray),(.int .i64 4)] aC fun r18=>ct (pN a0 a1 a2 a3 a4 K)<|br ((decide (a3 < 0)) || (decide (a3 >= 4))) ( pN a0 a1 a2 a3 a4 K 10) ( br (!(aQ ((am a4).1))) ( pN a0 a1 a2 a3 a4 K 1) ( pN a0 a1 a2 a3 a4 K r18))
theorem sim_user_Do (a0:Ptr) (a1:Ptr) (a2:Ptr) (a3:Int) (a4:aa) {K:kT (ad × an)} {h:Hp} (H:sh_user_Do a0 a1 a2 a3 a4 K h):cl prog n_user_Do [(pv a0),(pv a1),(pv a2),(.int .i64 a3),(.agg (aa.C a4).toArray)] dH K h:=have z0:LH (σ:=Int) 100007 3 (fun s2 r=>(12,(.int .i64 s2))::r) [12] [0,1,2,3,9,10,11,13] (fun _ l=>l):=⟨⟩; have z1:OH 12 [0,4,8,12,20,18,26,30] .e [1,0,0]:=⟨⟩; J [7] func144 H
end
section
open Go Mb
abbrev io:=an
abbrev Buf:=List TL × Int
abbrev iP:io:=⟨0,0,0,0⟩
namespace User
def walk (b:Buf) (t:List Pte) (e pg kind:Int):(io × Bool) × Buf :=
 if (Tlb.find b.1 e pg).2 = true/\bk (Tlb.find b.1 e pg).1.fCa kind = true then (((Tlb.find b.1 e pg).1,true),b)
 else if bk (Table.get t pg).1.fCa kind = false then ((iP,false),(Tlb.flush b e pg).2)
 else ((⟨e,pg,(Table.get t pg).1.fEa,(Table.get t pg).1.fCa⟩,true),(Tlb.fill b ⟨e,pg,(Table.get t pg).1.fEa,(Table.get t pg).1.fCa⟩).2)
def touch (m:List (List Int)) (f:Int) (c:bv):ad × List (List Int) :=
 if i64.wrap c.e0 = 20 then (⟨0,(Mem.load m f (i64.wrap c.e2)).1⟩,m)
 else if i64.wrap c.e0 = 21 then (⟨0,0⟩,(Mem.store m f (i64.wrap c.e2) c.e3).2)
 else if i64.wrap c.e0 = 22 then (⟨0,(Mem.cas m f (i64.wrap c.e2) c.e3 c.e4).1.1⟩,(Mem.cas m f (i64.wrap c.e2) c.e3 c.e4).2)
 else if i64.wrap c.e0 = 23 then (⟨0,(Mem.add m f (i64.wrap c.e2) c.e3).1.1⟩,(Mem.add m f (i64.wrap c.e2) c.e3).2)
 else (⟨0,0⟩,m)
def bad (e:Int) (c:bv):Int:=if e < 0\/e >= 4 then 10 else if aQ (am c).1 = false then 1 else Word.check c 4
def do_ (b:Buf) (t:List Pte) (m:List (List Int)) (e:Int) (c:bv):(ad × io) × Buf × List (List Int) :=
 if bad e c ≠ 0 then ((⟨bad e c,0⟩,iP),b,m)
 else if (walk b t e (i64.wrap c.e1) (am c).1).1.2 = false then ((⟨7,0⟩,iP),(walk b t e (i64.wrap c.e1) (am c).1).2,m)
 else (((touch m (walk b t e (i64.wrap c.e1) (am c).1).1.1.fEa c).1,(walk b t e (i64.wrap c.e1) (am c).1).1.1),(walk b t e (i64.wrap c.e1) (am c).1).2,(touch m (walk b t e (i64.wrap c.e1) (am c).1).1.1.fEa c).2)
end User
theorem sp_user_Walk (x y:Ptr) (b:Buf) (t:List Pte) (e pg kind:Int):Sp prog uN [pv x,pv y,.int .i64 e,.int .i64 pg,.int .i64 kind] eJ [dZ x b,bV y t] (fun r=>pa_ (r = (User.walk b t e pg kind).1) [dZ x (User.walk b t e pg kind).2,bV y t]):=by
 intro h s0;refine sim_user_Walk _ _ _ _ _ ?_;unfold sh_user_Walk;refine aW (sp_tlb_Find x b e pg) (i:=0) rfl s0 fun r h1 hr s1=>?_;subst hr;refine ar (fun k=>?_) (fun k=>?_)
 ·have k':(Tlb.find b.1 e pg).2 = true/\bk (Tlb.find b.1 e pg).1.fCa kind = true:=by simpa using k
  have e1:User.walk b t e pg kind = (((Tlb.find b.1 e pg).1,true),b):=if_pos k';rw [e1]; exact aw rfl s1
 ·have k':¬ ((Tlb.find b.1 e pg).2 = true/\bk (Tlb.find b.1 e pg).1.fCa kind = true):=by simpa using k
  refine aW (nu y t pg) (i:=1) rfl s1 fun r h2 hr s2=>?_;subst hr;refine ar (fun k2=>?_) (fun k2=>?_)
  ·have e1:User.walk b t e pg kind = ((iP,false),(Tlb.flush b e pg).2):=by unfold User.walk; rw [if_neg k',if_pos (by simpa using k2)]
   rw [e1];exact aW (sp_tlb_Flush x b e pg) (i:=0) rfl s2 fun r h3 hr s3=>aw rfl s3
  ·have e1:User.walk b t e pg kind = ((⟨e,pg,(Table.get t pg).1.fEa,(Table.get t pg).1.fCa⟩,true),(Tlb.fill b ⟨e,pg,(Table.get t pg).1.fEa,(Table.get t pg).1.fCa⟩).2):=by unfold User.walk; rw [if_neg k',if_neg (by simpa using k2)]
   rw [e1];exact aW (sp_tlb_Fill x b ⟨e,pg,(Table.get t pg).1.fEa,(Table.get t pg).1.fCa⟩) (i:=0) rfl s2 fun r h3 hr s3=>aw rfl s3
theorem sp_user_touch (x:Ptr) (m:List (List Int)) (f:Int) (c:bv):Sp prog xR [pv x,.int .i64 f,.agg c.C.toArray] gb [gC x m] (fun r=>pa_ (r = (User.touch m f c).1) [gC x (User.touch m f c).2]):=by
 intro h s0;refine sim_user_touch _ _ _ ?_;unfold sh_user_touch;refine ar (fun k=>?_) (fun k=>?_)
 ·have e1:User.touch m f c = (⟨0,(Mem.load m f (i64.wrap c.e2)).1⟩,m):=if_pos (by simpa using k);rw [e1];exact aW (qK x m f _) (i:=0) rfl s0 fun r h1 hr s1=>aw (by rw [hr]) s1
 refine ar (fun k2=>?_) (fun k2=>?_)
 ·have e1:User.touch m f c = (⟨0,0⟩,(Mem.store m f (i64.wrap c.e2) c.e3).2):=by unfold User.touch; rw [if_neg (by simpa using k),if_pos (by simpa using k2)]
  rw [e1];exact aW (lE x m f _ _) (i:=0) rfl s0 fun r h1 hr s1=>aw rfl s1
 refine ar (fun k3=>?_) (fun k3=>?_)
 ·have e1:User.touch m f c = (⟨0,(Mem.cas m f (i64.wrap c.e2) c.e3 c.e4).1.1⟩,(Mem.cas m f (i64.wrap c.e2) c.e3 c.e4).2):=by unfold User.touch; rw [if_neg (by simpa using k),if_neg (by simpa using k2),if_pos (by simpa using k3)]
  rw [e1];exact aW (sp_mem_Cas x m f _ _ _) (i:=0) rfl s0 fun r h1 hr s1=>aw (by rw [hr]) s1
 refine ar (fun k4=>?_) (fun k4=>?_)
 ·have e1:User.touch m f c = (⟨0,(Mem.add m f (i64.wrap c.e2) c.e3).1.1⟩,(Mem.add m f (i64.wrap c.e2) c.e3).2):=by unfold User.touch; rw [if_neg (by simpa using k),if_neg (by simpa using k2),if_neg (by simpa using k3),if_pos (by simpa using k4)]
  rw [e1];exact aW (sp_mem_Add x m f _ _) (i:=0) rfl s0 fun r h1 hr s1=>aw (by rw [hr]) s1
 have e1:User.touch m f c = (⟨0,0⟩,m):=by unfold User.touch; rw [if_neg (by simpa using k),if_neg (by simpa using k2),if_neg (by simpa using k3),if_neg (by simpa using k4)]
 rw [e1];exact aw rfl s0
theorem sp_user_Do (x y z:Ptr) (b:Buf) (t:List Pte) (m:List (List Int)) (e:Int) (c:bv):Sp prog n_user_Do [pv x,pv y,pv z,.int .i64 e,.agg c.C.toArray] dH [dZ x b,bV y t,gC z m] (fun r=>pa_ (r = (User.do_ b t m e c).1) [dZ x (User.do_ b t m e c).2.1,bV y t,gC z (User.do_ b t m e c).2.2]):=by
 intro h s0;refine sim_user_Do _ _ _ _ _ ?_;unfold sh_user_Do;refine ud (ir c 4) s0 fun r h1 hr s1=>?_;subst hr;have go:∀ n,n = User.bad e c->pN x y z e c (fun r=>pa_ (r = (User.do_ b t m e c).1) [dZ x (User.do_ b t m e c).2.1,bV y t,gC z (User.do_ b t m e c).2.2]) n h1:=by
  intro n hn;unfold pN;refine ar (fun k=>?_) (fun k=>?_)
  ·have k':User.bad e c ≠ 0:=by rw [← hn]; simpa using k
   have e1:User.do_ b t m e c = ((⟨User.bad e c,0⟩,iP),b,m):=if_pos k';rw [e1]; exact aw (by rw [hn]) s1
  ·have k':¬ User.bad e c ≠ 0:=by rw [← hn]; simpa using k
   refine bG [0,0] (sp_user_Walk x y b t e (i64.wrap c.e1) (am c).1) s1 rfl fun r h2 s2=>?_;obtain ⟨hr,s3⟩:=aM.1 s2;subst hr;refine ar (fun k2=>?_) (fun k2=>?_)
   ·have e1:User.do_ b t m e c = ((⟨7,0⟩,iP),(User.walk b t e (i64.wrap c.e1) (am c).1).2,m):=by unfold User.do_; rw [if_neg k',if_pos (by simpa using k2)]
    rw [e1]; exact aw rfl s3
   ·have e1:User.do_ b t m e c = (((User.touch m (User.walk b t e (i64.wrap c.e1) (am c).1).1.1.fEa c).1,(User.walk b t e (i64.wrap c.e1) (am c).1).1.1),(User.walk b t e (i64.wrap c.e1) (am c).1).2,(User.touch m (User.walk b t e (i64.wrap c.e1) (am c).1).1.1.fEa c).2):=by unfold User.do_; rw [if_neg k',if_neg (by simpa using k2)]
    rw [e1];exact aW (sp_user_touch z m _ c) (i:=2) rfl s3 fun r h3 hr s4=>aw (by rw [hr]) s4
 refine ar (fun k=>go 10 ?_) (fun k=>?_)
 ·unfold User.bad; rw [if_pos (by simpa using k)]
 ·have k':¬ (e < 0\/e >= 4):=by simpa using k
  refine ar (fun k2=>go 1 ?_) (fun k2=>go _ ?_)
  ·unfold User.bad; rw [if_neg k',if_pos (by simpa using k2)]
  ·unfold User.bad; rw [if_neg k',if_neg (by simpa using k2)]
end
section
open Go Mb
abbrev KC:=lA
abbrev aL:=ax
structure KK where
 p:PK
 fMa:List Buf
 fLa:Mail.S
 fGa:fNa.S
 calls:List (Option KC)
 events:List aL
 now:Int
namespace KK
def is (k:KK) (c:Int):Bool:=decide (0 <= c/\c < k.calls.length)
def call (k:KK) (c:Int):Option KC:=(k.calls.getD c.toNat none)
def busy (k:KK) (c:Int):Bool:=is k c && (call k c).isSome
def buf (k:KK) (c:Int):Buf:=k.fMa.getD c.toNat ([],0)
def ev0 (core env:Int) (c:bv) (n:Int):aL:=⟨core,env,c,n,0,0,⟨0,0⟩,iP⟩
def begin_ (k:KK) (core env:Int) (c:bv):Bool × KK :=
 if is k core = false\/busy k core = true\/env < 0\/env >= k.p.s.fHa then (false,k)
 else (true,{ k with now:=i64.wrap (k.now + 1),events:=k.events++[ev0 core env c (i64.wrap (k.now + 1))],calls:=k.calls.set core.toNat (some ⟨k.events.length,env,c,false,0⟩) })
def goes (p:PK) (x:KC) (e s:Int):Bool :=
 if x.fc.e0 = 5/\e = x.fFa/\s = i64.wrap x.fc.e1 then true
 else if fAa.has p.caps e s = true then fAa.under p.caps (fAa.get p.caps e s) ⟨x.fFa,i64.wrap x.fc.e1⟩ else false
def left (p:PK) (x:KC) (e pg:Int) (q:Pte):Pte :=
 if x.fc.e0 = 7 then (if x.fFa = e/\i64.wrap x.fc.e1 = pg then cc else q)
 else if x.fc.e0 = 8 then (if (x.fFa = e/\i64.wrap x.fc.e1 = pg)/\ap (i64.wrap x.fc.e2) (fAa.at_ p.caps e q.fDa).1.fCa = true then { q with fCa:=iand .i64 q.fCa (i64.wrap x.fc.e2) } else q)
 else if goes p x e q.fDa = true then cc else q
def fDb (p:PK) (e pg:Int):List (Option KC)->Bool->Pte->Pte × Bool
 | [],b,q=>(q,b)
 | none::cs,b,q=>fDb p e pg cs b q
 | some x::cs,b,q=>if b = true/\x.fQa = true then fDb p e pg cs ((left p x e pg q).fCa != 0) (left p x e pg q) else fDb p e pg cs b q
def seen (k:KK) (e pg:Int):Pte × Bool:=fDb k.p e pg k.calls (PK.pte k.p e pg).2 (PK.pte k.p e pg).1
def hits (p:PK) (x:KC) (e pg:Nat):Bool:=(PK.pte p e pg).2 && !(ak.eqb (left p x e pg (PK.pte p e pg).1) (PK.pte p e pg).1)
def takes (p:PK) (x:KC):Bool :=
 if Word.check x.fc p.s.fHa ≠ 0\/x.fc.e0 < 4\/x.fc.e0 > 8\/x.fc.e0 = 6 then false
 else (range p.s.fHa.toNat).any fun e=>(range 8).any fun pg=>hits p x e pg
def stale (k:KK) (l:io):Bool:=decide (0 <= l.fBa) && (!(seen k l.fBa l.fPa).2 || (seen k l.fBa l.fPa).1.fEa != l.fEa || !(ap l.fCa (seen k l.fBa l.fPa).1.fCa))
def cleans (k:KK):List io->Buf->Buf
 | [],b=>b
 | l::ls,b=>if stale k l = true then cleans k ls (Tlb.flush b l.fBa l.fPa).2 else cleans k ls b
def clean (k:KK) (c:Int):KK:={ k with fMa:=k.fMa.set c.toNat (cleans k (Tlb.lines (buf k c)) (buf k c)) }
def evend (e:aL) (n:Int) (a:bY) (l:io):aL:={ e with fIa:=n,fXa:=n,fCb:=a,fAb:=l }
def ends (k:KK) (c:Int) (x:KC) (a:bY) (l:io):KK :=
 { k with events:=k.events.set x.fat.toNat (evend (k.events.getD x.fat.toNat (ev0 0 0 ⟨0,0,0,0,0⟩ 0)) k.now a l),calls:=k.calls.set c.toNat none }
def fGb (k:KK) (e pg:Int):List Pte:=if (seen k e pg).2 = true then (Table.insert (replicate 8 cc) pg (seen k e pg).1).2 else replicate 8 cc
def fYa (k:KK) (c:Int) (x:KC):(io × Bool) × Buf:=User.walk (buf k c) (fGb k x.fFa (i64.wrap x.fc.e1)) x.fFa (i64.wrap x.fc.e1) (i64.wrap x.fc.e0)
def access (k:KK) (c:Int) (x:KC):(bY × io) × KK :=
 if Word.check x.fc k.p.s.fHa ≠ 0 then ((⟨Word.check x.fc k.p.s.fHa,0⟩,iP),k)
 else if (fYa k c x).1.2 = false then ((⟨7,0⟩,iP),{ k with fMa:=k.fMa.set c.toNat (fYa k c x).2 })
 else (((PK.touch k.p (fYa k c x).1.1.fEa x.fc).1.1,(fYa k c x).1.1),{ k with fMa:=k.fMa.set c.toNat (fYa k c x).2,p:=(PK.touch k.p (fYa k c x).1.1.fEa x.fc).2 })
def tell (k:KK) (c:Int) (x:KC):KK:={ k with calls:=k.calls.set c.toNat (some { x with fQa:=true }) }
def send (k:KK) (c:Int) (x:KC):KK :=
 { k with fGa:=(fNa.begin_ k.fGa c).2,calls:=k.calls.set c.toNat (some { x with fQa:=true,fBb:=(fNa.begin_ k.fGa c).1.1 }),fLa:=(Mail.sends k.fLa c (fNa.begin_ k.fGa c).1.1 k.fLa.length).2 }
def tick (k:KK):KK:={ k with now:=i64.wrap (k.now + 1) }
def work (k:KK) (c:Int) (x:KC):KK :=
 if aQ (am x.fc).1 = true then ends (access k c x).2 c x (access k c x).1.1 (access k c x).1.2
 else if x.fQa = false/\takes k.p x = true then send (clean (tell k c x) c) c x
 else if x.fQa = true/\fNa.done k.fGa x.fBb = false then k
 else if (PK.do_ k.p x.fFa x.fc).1.2 = true then ends { k with p:=(PK.do_ k.p x.fFa x.fc).2 } c x (PK.do_ k.p x.fFa x.fc).1.1 iP
 else { k with p:=(PK.do_ k.p x.fFa x.fc).2 }
def step (k:KK) (c:Int):Bool × KK :=
 if busy k c = false then (false,k) else match call k c with
 | none=>(false,k)
 | some x=>(true,work (tick k) c x)
def post (k:KK) (c:Int):Bool × KK :=
 if is k c = false then (false,k) else if (Mail.take k.fLa c).1.2 = false then (false,k)
 else (true,{ clean { tick k with fLa:=(Mail.take k.fLa c).2 } c with fGa:=(fNa.ack k.fGa c (Mail.take k.fLa c).1.1).2 })
def evict (k:KK) (c s w:Int):Bool × KK :=
 if is k c = false then (false,k) else if (Tlb.evict (buf k c) s w).1 = false then (false,k)
 else (true,{ tick k with fMa:=k.fMa.set c.toNat (Tlb.evict (buf k c) s w).2 })
def mail (k:KK) (c:Int):Int:=if is k c = true then Mail.waits k.fLa c else 0
def lines (k:KK) (c:Int):List io:=if is k c = true then Tlb.lines (buf k c) else []
def new (s:dc):KK:=⟨PK.new s,replicate s.fRa.toNat tlb0,replicate s.fRa.toNat [],([],replicate s.fRa.toNat 0),replicate s.fRa.toNat none,[],0⟩
end KK
structure mc (n:Nat) (l:List Int):Prop where
 up:l.Pairwise (· < ·)
 lo:∀ x ∈ l,1 <= x
 hi:∀ x ∈ l,x <= n
structure KK.Ok (k:KK):Prop where
 p:PK.Ok k.p
 tl:(k.fMa.length:Int) = k.p.s.fRa
 bl:(k.fLa.length:Int) = k.p.s.fRa
 el:(k.fGa.2.length:Int) = k.p.s.fRa
 cl:(k.calls.length:Int) = k.p.s.fRa
 cs:∀ x,some x ∈ k.calls->0 <= x.fat/\x.fat < k.events.length/\0 <= x.fFa/\x.fFa < k.p.s.fHa
 n0:0 <= k.now
 evn:(k.events.length:Int) <= k.now
 epn:(k.fGa.1.length:Int) <= k.now
 bx:∀ l ∈ k.fLa,mc k.fGa.1.length l
theorem box_len {n:Nat} {l:List Int} (h:mc n l):l.length <= n:=by
 have key:∀ (l:List Int) (a:Int),l.Pairwise (· < ·)->(∀ x ∈ l,a < x)->(∀ x ∈ l,x <= n)->(l.length:Int) <= max 0 (n - a):=by
  intro l
  induction l with
  | nil=>intro a _ _ _; simp; omega
  | cons b l ih =>
   intro a hp hl hh;obtain ⟨h1,h2⟩:=List.pairwise_cons.1 hp;have:=ih b h2 (fun x hx=>h1 x hx) (fun x hx=>hh x (by simp [hx]));have:=hl b (by simp);have:=hh b (by simp);simp only [List.length_cons]; omega
 have:=key l 0 h.up (fun x hx=>by have:=h.lo x hx; omega) h.hi;omega
theorem box_fit {n:Nat} {l:List Int} (h:mc n l) (hn:n < 2 ^ 40):Mail.Fit l ((n:Int) + 1) :=
 ⟨fun x hx=>by have:=h.hi x hx; omega,h.up,by have:=box_len h; omega⟩
theorem box_more {n m:Nat} {l:List Int} (h:mc n l) (hn:n <= m):mc m l:=⟨h.up,h.lo,fun x hx=>by have:=h.hi x hx; omega⟩
theorem box_push {n:Nat} {l:List Int} (h:mc n l):mc (n + 1) (l++[(n:Int) + 1]):=by
 refine ⟨List.pairwise_append.2 ⟨h.up,List.pairwise_singleton _ _,fun a ha b hb=>?_⟩,fun x hx=>?_,fun x hx=>?_⟩
 ·rw [List.mem_singleton.1 hb]; have:=h.hi a ha; omega
 ·rcases List.mem_append.1 hx with h1 | h1
  ·exact h.lo x h1
  ·rw [List.mem_singleton.1 h1]; omega
 ·rcases List.mem_append.1 hx with h1 | h1
  ·have:=h.hi x h1; omega
  ·rw [List.mem_singleton.1 h1]; omega
theorem box_drop {n:Nat} {l:List Int} (h:mc n l):mc n (l.drop 1) :=
 ⟨h.up.sublist (List.drop_sublist 1 l),fun x hx=>h.lo x (List.mem_of_mem_drop hx),fun x hx=>h.hi x (List.mem_of_mem_drop hx)⟩
theorem boxes_set {bs:Mail.S} {n:Nat} (h:∀ l ∈ bs,mc n l) (i:Nat) {b:List Int} (hb:mc n b):∀ l ∈ bs.set i b,mc n l:=by
 intro l hl;rcases List.mem_or_eq_of_mem_set hl with h1 | h1
 ·exact h l h1
 ·subst h1; exact hb
theorem box_of {bs:Mail.S} {n:Nat} (h:∀ l ∈ bs,mc n l) (c:Int):mc n (Mail.box bs c):=by
 unfold Mail.box;by_cases hi:c.toNat < bs.length
 ·simp [hi]; exact h _ (getElem_mem hi)
 ·simp [getD_eq_getElem?_getD,List.getElem?_eq_none (Nat.le_of_not_lt hi)];exact ⟨.nil,fun x hx=>(by cases hx),fun x hx=>(by cases hx)⟩
theorem boxes_send {bs:Mail.S} {n:Nat} (f t:Int) (h:∀ l ∈ bs,mc (n + 1) l) (ht:mc n (Mail.box bs t)):∀ l ∈ (Mail.send bs f t ((n:Int) + 1)).2,mc (n + 1) l:=by
 unfold Mail.send;split
 ·exact boxes_set h _ (box_push ht)
 ·exact h
theorem boxes_sends {bs:Mail.S} {n:Nat} (f:Int) (h:∀ l ∈ bs,mc n l):∀ j,j <= bs.length->∀ l ∈ (Mail.sends bs f ((n:Int) + 1) j).2,mc (n + 1) l
 | 0,_=>fun l hl=>box_more (h l hl) (by omega)
 | j + 1,hj=>by
  have ih:=boxes_sends f h j (by omega);have hb:Mail.box (Mail.sends bs f ((n:Int) + 1) j).2 j = Mail.box bs j:=by
   unfold Mail.box;rw [Int.toNat_natCast,getD_eq_getElem?_getD,getD_eq_getElem?_getD,Mail.sends_ge bs f _ j j (Nat.le_refl _)]
  have:=boxes_send f (j:Int) ih (by rw [hb]; exact box_of h _);unfold Mail.sends;split <;> exact this
theorem vJ {n:Int} (h0:0 <= n) (h1:n < 2 ^ 40):i64.wrap (n + 1) = n + 1:=aE (by omega) (by omega)
theorem calls_set {k:KK} (ok:KK.Ok k) (i:Nat) {o:Option KC} {n:Int} (hn:(k.events.length:Int) <= n) (ho:∀ x,o = some x->0 <= x.fat/\x.fat < n/\0 <= x.fFa/\x.fFa < k.p.s.fHa):∀ x,some x ∈ k.calls.set i o->0 <= x.fat/\x.fat < n/\0 <= x.fFa/\x.fFa < k.p.s.fHa:=by
 intro x hx;rcases List.mem_or_eq_of_mem_set hx with h1 | h1
 ·have:=ok.cs x h1; omega
 ·exact ho x h1.symm
theorem kok_new {s:dc} (h:PK.sized s = true):KK.Ok (KK.new s):=by
 have hs:=cQ.1 h;refine ⟨ok_new h,?_,?_,?_,?_,?_,le_refl _,le_refl _,le_refl _,?_⟩
 ·simp [KK.new,PK.new]; omega
 ·simp [KK.new,PK.new]; omega
 ·simp [KK.new,PK.new]; omega
 ·simp [KK.new,PK.new]; omega
 ·intro x hx;have:=(List.mem_replicate.1 hx).2;cases this
 ·intro l hl;rw [(List.mem_replicate.1 hl).2];exact ⟨.nil,fun x hx=>(by cases hx),fun x hx=>(by cases hx)⟩
theorem kok_begin {k:KK} (ok:KK.Ok k) (hn:k.now < 2 ^ 40) (core env:Int) (c:bv):KK.Ok (KK.begin_ k core env c).2:=by
 unfold KK.begin_;split
 ·exact ok
 ·rename_i h;have h1:=ok.n0;have h2:=ok.evn;have h3:=ok.epn;simp at h;have hw:=vJ h1 hn;refine ⟨ok.p,ok.tl,ok.bl,ok.el,by simpa using ok.cl,?_,by simp only [hw]; omega,by simp only [hw,List.length_append,List.length_singleton]; omega,by simp only [hw]; omega,ok.bx⟩;simp only [List.length_append,List.length_singleton];refine calls_set ok _ (by omega) fun x hx=>?_;cases hx;simp only; omega
theorem kok_tick {k:KK} (ok:KK.Ok k) (hn:k.now < 2 ^ 40):KK.Ok (KK.tick k):=by
 have h1:=ok.n0;have h2:=ok.evn;have h3:=ok.epn;have hw:=vJ h1 hn;unfold KK.tick;exact ⟨ok.p,ok.tl,ok.bl,ok.el,ok.cl,ok.cs,by simp only [hw]; omega,by simp only [hw]; omega,by simp only [hw]; omega,ok.bx⟩
theorem kok_tlbs {k:KK} (ok:KK.Ok k) (i:Nat) (b:Buf):KK.Ok { k with fMa:=k.fMa.set i b }:=⟨ok.p,by simpa using ok.tl,ok.bl,ok.el,ok.cl,ok.cs,ok.n0,ok.evn,ok.epn,ok.bx⟩
theorem kok_p {k:KK} (ok:KK.Ok k) {p:PK} (h:PK.Ok p) (hs:p.s = k.p.s):KK.Ok { k with p:=p } :=
 ⟨h,by rw [hs]; exact ok.tl,by rw [hs]; exact ok.bl,by rw [hs]; exact ok.el,by rw [hs]; exact ok.cl,by rw [hs]; exact ok.cs,ok.n0,ok.evn,ok.epn,ok.bx⟩
theorem kok_ends {k:KK} (ok:KK.Ok k) (c:Int) (x:KC) (a:bY) (l:io):KK.Ok (KK.ends k c x a l):=by
 unfold KK.ends;refine ⟨ok.p,ok.tl,ok.bl,ok.el,by simpa using ok.cl,?_,ok.n0,by simpa using ok.evn,ok.epn,ok.bx⟩;simp only [length_set];exact calls_set ok _ (le_refl _) fun x hx=>by cases hx
theorem touch_s (k:PK) (f:Int) (c:bv):(PK.touch k f c).2.s = k.s:=by
 unfold PK.touch
 repeat' split
 all_goals rfl
theorem alloc_s (k:PK) (e s:Int):(PK.alloc k e s).2.s = k.s:=by
 unfold PK.alloc
 repeat' split
 all_goals rfl
theorem derive_s (k:PK) (e a b c d:Int):(PK.derive k e a b c d).2.s = k.s:=by
 unfold PK.derive
 repeat' split
 all_goals rfl
theorem gone_size (f:Int):∀ (l:List ba) (k:PK),(PK.gone k f l).s = k.s
 | [],_=>rfl
 | _::l,_=>by rw [PK.gone,gone_size f l]
theorem revoke_s (k:PK) (e s:Int) (w:Bool):(PK.revoke k e s w).2.s = k.s:=by
 unfold PK.revoke;split
 ·rfl
 ·split <;> simp only [gone_size]
theorem maps_s (k:PK) (e a b c:Int):(PK.maps k e a b c).2.s = k.s:=by
 unfold PK.maps
 repeat' split
 all_goals rfl
theorem protect_s (k:PK) (e a b:Int):(PK.protect k e a b).2.s = k.s:=by
 unfold PK.protect
 repeat' split
 all_goals rfl
theorem user_s (k:PK) (e:Int) (c:bv):(PK.user k e c).2.s = k.s:=by
 unfold PK.user; split
 ·rfl
 ·exact touch_s _ _ _
theorem does_s (k:PK) (e:Int) (c:bv):(PK.does k e c).2.s = k.s:=by
 unfold PK.does PK.errs
 repeat' split
 all_goals first | rfl | exact alloc_s _ _ _ | exact derive_s _ _ _ _ _ _ | exact revoke_s _ _ _ _ | exact maps_s _ _ _ _ _ | exact protect_s _ _ _ _ | exact user_s _ _ _
theorem do_s (k:PK) (e:Int) (c:bv):(PK.do_ k e c).2.s = k.s:=by
 unfold PK.do_; split
 ·rfl
 ·split
  ·rfl
  ·exact does_s _ _ _
theorem kok_access {k:KK} (ok:KK.Ok k) (c:Int) (x:KC):KK.Ok (KK.access k c x).2:=by
 unfold KK.access;split
 ·exact ok
 ·split
  ·exact kok_tlbs ok _ _
  ·have h1:=kok_tlbs ok c.toNat (KK.fYa k c x).2;exact kok_p h1 (ok_touch ok.p _ _) (touch_s _ _ _)
theorem kok_clean {k:KK} (ok:KK.Ok k) (c:Int):KK.Ok (KK.clean k c):=kok_tlbs ok _ _
theorem call_ok {k:KK} (ok:KK.Ok k) {c:Int} {x:KC} (h:KK.call k c = some x):0 <= x.fat/\x.fat < k.events.length/\0 <= x.fFa/\x.fFa < k.p.s.fHa:=by
 refine ok.cs x ?_;unfold KK.call at h;by_cases hi:c.toNat < k.calls.length
 ·simp [hi] at h; rw [← h]; exact getElem_mem hi
 ·simp [getD_eq_getElem?_getD,List.getElem?_eq_none (Nat.le_of_not_lt hi)] at h
theorem kok_call {k:KK} (ok:KK.Ok k) (c:Int) {x y:KC} (h:KK.call k c = some x) (h1:y.fat = x.fat) (h2:y.fFa = x.fFa):KK.Ok { k with calls:=k.calls.set c.toNat (some y) }:=by
 have hc:=call_ok ok h;refine ⟨ok.p,ok.tl,ok.bl,ok.el,by simpa using ok.cl,calls_set ok _ (le_refl _) fun z hz=>?_,ok.n0,ok.evn,ok.epn,ok.bx⟩;cases hz;show 0 <= y.fat/\y.fat < (k.events.length:Int)/\0 <= y.fFa/\y.fFa < k.p.s.fHa;omega
theorem call_set_same {k:KK} {c:Int} {x y:KC} (h:KK.call k c = some x):({ k with calls:=k.calls.set c.toNat (some y) }:KK).call c = some y:=by
 unfold KK.call at h ⊢;by_cases hi:c.toNat < k.calls.length
 ·simp [hi]
 ·simp [getD_eq_getElem?_getD,List.getElem?_eq_none (Nat.le_of_not_lt hi)] at h
theorem kok_send {k:KK} (ok:KK.Ok k) (hn:(k.fGa.1.length:Int) + 1 <= k.now) {c:Int} {x:KC} (hc:KK.call k c = some { x with fQa:=true }) (hi:KK.is k c = true):KK.Ok (KK.send k c x):=by
 have hc':=call_ok ok hc;simp only at hc';have he:fNa.is k.fGa c = true:=by
  unfold KK.is at hi;have h1:=of_decide_eq_true hi;have:=ok.el;have:=ok.cl;unfold fNa.is;exact decide_eq_true (by omega)
 have eb:fNa.begin_ k.fGa c = (((k.fGa.1.length:Int) + 1,true),(k.fGa.1++[c],k.fGa.2)):=if_pos he;unfold KK.send;rw [eb];refine ⟨ok.p,ok.tl,by rw [← ok.bl]; simp only [Mail.sends_len],ok.el,by simpa using ok.cl,calls_set ok _ (le_refl _) fun z hz=>?_,ok.n0,ok.evn,by simp; omega,?_⟩
 ·cases hz; exact hc'
 ·simp only [List.length_append,List.length_singleton];exact boxes_sends c ok.bx _ (Nat.le_refl _)
theorem kok_work {k:KK} (ok:KK.Ok k) (hn:(k.fGa.1.length:Int) + 1 <= k.now) {c:Int} {x:KC} (hc:KK.call k c = some x) (hi:KK.is k c = true):KK.Ok (KK.work k c x):=by
 unfold KK.work;split
 ·exact kok_ends (kok_access ok c x) _ _ _ _
 ·split
  ·refine kok_send (kok_clean (kok_call ok c hc (y:={ x with fQa:=true }) rfl rfl) c) hn ?_ ?_
   ·exact call_set_same hc
   ·unfold KK.is at hi ⊢;show decide (0 <= c/\c < ((k.calls.set c.toNat _).length:Int)) = true;rw [length_set]; exact hi
  ·split
   ·exact ok
   ·split
    ·exact kok_ends (kok_p ok (ok_do ok.p _ _) (do_s _ _ _)) _ _ _ _
    ·exact kok_p ok (ok_do ok.p _ _) (do_s _ _ _)
theorem busy_is {k:KK} {c:Int} (h:KK.busy k c = true):KK.is k c = true/\∃ x,KK.call k c = some x:=by
 unfold KK.busy at h;rw [Bool.and_eq_true,Option.isSome_iff_exists] at h;exact h
theorem kok_post {k:KK} (ok:KK.Ok k) (hn:k.now < 2 ^ 40) (c:Int):KK.Ok (KK.post k c).2:=by
 unfold KK.post;split
 ·exact ok
 ·split
  ·exact ok
  ·have o1:=kok_tick ok hn;have hb:∀ l ∈ (Mail.take k.fLa c).2,mc k.fGa.1.length l:=by
    unfold Mail.take; split
    ·exact ok.bx
    ·exact boxes_set ok.bx _ (box_drop (box_of ok.bx c))
   have hbl:(Mail.take k.fLa c).2.length = k.fLa.length:=by unfold Mail.take; split <;> simp
   have ha:(fNa.ack k.fGa c (Mail.take k.fLa c).1.1).2.1 = k.fGa.1/\(fNa.ack k.fGa c (Mail.take k.fLa c).1.1).2.2.length = k.fGa.2.length:=by
    unfold fNa.ack; split <;> simp
   refine ⟨ok.p,?_,?_,?_,ok.cl,ok.cs,o1.n0,o1.evn,?_,?_⟩
   ·simp only [KK.clean,KK.tick,length_set]; exact ok.tl
   ·simp only [KK.clean,KK.tick,hbl]; exact ok.bl
   ·simp only [KK.clean,KK.tick,ha.2]; exact ok.el
   ·show ((fNa.ack k.fGa c (Mail.take k.fLa c).1.1).2.1.length:Int) <= _;rw [ha.1]; exact o1.epn
   ·show ∀ l ∈ (Mail.take k.fLa c).2,mc (fNa.ack k.fGa c (Mail.take k.fLa c).1.1).2.1.length l;rw [ha.1]; exact hb
theorem kok_evict {k:KK} (ok:KK.Ok k) (hn:k.now < 2 ^ 40) (c s w:Int):KK.Ok (KK.evict k c s w).2:=by
 unfold KK.evict;split
 ·exact ok
 ·split
  ·exact ok
  ·exact kok_tlbs (kok_tick ok hn) _ _
end
section
open Go Mb
namespace Tlb
theorem ln_set {ls:List TL} (hl:ls.length = 8) {n:Nat} (hn:n < 8) (y:TL) (i:Nat):ln (ls.set n y) i = if i = n then y else ln ls i:=by
 simp only [ln,getD_eq_getElem?_getD,List.getElem?_set];by_cases e:n = i
 ·subst e; simp [hl,hn]
 ·rw [if_neg e,if_neg (fun h=>e h.symm)]
abbrev bs (p:Int):Nat:=(p.tmod 4).toNat * 2
theorem bs_lt {p:Int} (h:0 <= p):bs p + 1 < 8:=by
 obtain ⟨q,h1,h2⟩:=tmod4 h;unfold bs; rw [h1]; simp; omega
theorem at_iff {ls:List TL} {e p:Int} {n:Nat}:at_ ls e p = some n↔(0 <= e/\0 <= p/\p < 8)/\(n = bs p/\hit ls e p (bs p)\/n = bs p + 1/\hit ls e p (bs p + 1)/\¬ hit ls e p (bs p)):=by
 unfold at_;by_cases h:e < 0\/p < 0\/p >= 8
 ·rw [if_pos h];constructor
  ·intro x; cases x
  ·rintro ⟨x,_⟩; omega
 ·rw [if_neg h];by_cases h1:hit ls e p (bs p)
  ·rw [if_pos h1];constructor
   ·intro x; cases x; exact ⟨by omega,.inl ⟨rfl,h1⟩⟩
   ·rintro ⟨_,⟨rfl,_⟩ | ⟨_,_,h2⟩⟩
    ·rfl
    ·exact absurd h1 h2
  ·rw [if_neg h1];by_cases h2:hit ls e p (bs p + 1)
   ·rw [if_pos h2];constructor
    ·intro x; cases x; exact ⟨by omega,.inr ⟨rfl,h2,h1⟩⟩
    ·rintro ⟨_,⟨_,h3⟩ | ⟨rfl,_⟩⟩
     ·exact absurd h3 h1
     ·rfl
   ·rw [if_neg h2];constructor
    ·intro x; cases x
    ·rintro ⟨_,⟨_,h3⟩ | ⟨_,h3,_⟩⟩
     ·exact absurd h3 h1
     ·exact absurd h3 h2
theorem at_hit {ls:List TL} {e p:Int} {n:Nat} (h:at_ ls e p = some n):(ln ls n).fl.fBa = e/\(ln ls n).fl.fPa = p:=by
 rcases (at_iff.1 h).2 with ⟨e1,h1⟩ | ⟨e1,h1,_⟩
 ·rw [e1]; exact h1
 ·rw [e1]; exact h1
structure TOk (t:Buf):Prop where
 len:t.1.length = 8
 at_:∀ i,i < 8->0 <= (ln t.1 i).fl.fBa->at_ t.1 (ln t.1 i).fl.fBa (ln t.1 i).fl.fPa = some i
theorem mem_lines {t:Buf} (h:t.1.length = 8) {l:io}:l ∈ lines t↔∃ i,i < 8/\l = (ln t.1 i).fl:=by
 unfold lines;rw [List.mem_map];constructor
 ·rintro ⟨x,hx,rfl⟩;obtain ⟨i,hi,rfl⟩:=List.getElem_of_mem hx;exact ⟨i,by omega,by simp [ln,hi]⟩
 ·rintro ⟨i,hi,rfl⟩;have:i < t.1.length:=by omega
  exact ⟨t.1[i],getElem_mem this,by simp [ln,this]⟩
theorem tok_new:TOk tlb0:=by
 refine ⟨rfl,fun i hi h=>?_⟩;have key:∀ i,i < 8->(ln tlb0.1 i).fl.fBa = -1:=by decide
 rw [key i hi] at h;exact absurd h (by decide)
theorem tok_clear {t:Buf} (h:TOk t) {n:Nat} (hn:n < 8) {y:TL} (hy:y.fl.fBa < 0) (m:Int):TOk (t.1.set n y,m):=by
 refine ⟨by simpa using h.len,fun i hi he=>?_⟩;simp only at he ⊢;rw [ln_set h.len hn] at he ⊢;by_cases e:i = n
 ·rw [if_pos e] at he; omega
 ·rw [if_neg e] at he ⊢;have h1:=at_iff.1 (h.at_ i hi he);have keep:∀ j,hit (t.1.set n y) (ln t.1 i).fl.fBa (ln t.1 i).fl.fPa j↔j ≠ n/\hit t.1 (ln t.1 i).fl.fBa (ln t.1 i).fl.fPa j:=by
   intro j;unfold hit;rw [ln_set h.len hn];by_cases ej:j = n
   ·rw [if_pos ej];constructor
    ·intro x; omega
    ·intro x; exact absurd ej x.1
   ·rw [if_neg ej]; simp [ej]
  refine at_iff.2 ⟨h1.1,?_⟩;rcases h1.2 with ⟨a,b⟩ | ⟨a,b,c⟩
  ·exact .inl ⟨a,(keep _).2 ⟨a ▸ e,b⟩⟩
  ·exact .inr ⟨a,(keep _).2 ⟨a ▸ e,b⟩,fun x=>c ((keep _).1 x).2⟩
theorem flush_eq {t:Buf} {e p:Int}:flush t e p = (match at_ t.1 e p with | some n=>(true,t.1.set n { ln t.1 n with fl:=cm },t.2) | none=>(false,t)):=rfl
theorem lines_clear {t:Buf} (h:TOk t) {n:Nat} (hn:n < 8) {y:TL} (hy:y.fl.fBa < 0) {m:Int} {l:io} (hl:l ∈ lines (t.1.set n y,m)) (he:0 <= l.fBa):∃ i,i < 8/\i ≠ n/\l = (ln t.1 i).fl:=by
 obtain ⟨i,hi,rfl⟩:=(mem_lines (by simpa using h.len)).1 hl;simp only at he ⊢;rw [ln_set h.len hn] at he ⊢;by_cases e:i = n
 ·rw [if_pos e] at he; omega
 ·rw [if_neg e]; exact ⟨i,hi,e,rfl⟩
theorem tok_flush {t:Buf} (h:TOk t) (e p:Int):TOk (flush t e p).2:=by
 rw [flush_eq];split
 ·rename_i n hn;exact tok_clear h (at_lt hn) (by show (-1:Int) < 0; omega) _
 ·exact h
theorem lines_flush {t:Buf} (h:TOk t) {e p:Int} {l:io} (hl:l ∈ lines (flush t e p).2) (he:0 <= l.fBa):l ∈ lines t/\¬ (l.fBa = e/\l.fPa = p):=by
 rw [flush_eq] at hl;split at hl
 ·rename_i n hn;obtain ⟨i,hi,hne,rfl⟩:=lines_clear h (at_lt hn) (by show (-1:Int) < 0; omega) hl he;refine ⟨(mem_lines h.len).2 ⟨i,hi,rfl⟩,?_⟩;rintro ⟨rfl,rfl⟩;have:=h.at_ i hi he;rw [hn] at this;exact hne (Option.some.inj this).symm
 ·rename_i hn;refine ⟨hl,?_⟩;rintro ⟨rfl,rfl⟩;obtain ⟨i,hi,rfl⟩:=(mem_lines h.len).1 hl;rw [h.at_ i hi he] at hn;cases hn
theorem evict_in {t:Buf} (h:TOk t) (s w:Int):TOk (evict t s w).2/\∀ l ∈ lines (evict t s w).2,0 <= l.fBa->l ∈ lines t:=by
 unfold evict;split
 ·exact ⟨h,fun l hl _=>hl⟩
 ·rename_i c;split
  ·exact ⟨h,fun l hl _=>hl⟩
  ·have hn:s.toNat * 2 + w.toNat < 8:=by omega
   refine ⟨tok_clear h hn (by show (-1:Int) < 0; omega) _,fun l hl he=>?_⟩;obtain ⟨i,hi,_,rfl⟩:=lines_clear h hn (by show (-1:Int) < 0; omega) hl he;exact (mem_lines h.len).2 ⟨i,hi,rfl⟩
theorem room_in (ls:List TL) (p:Int):room ls (bs p) = bs p\/room ls (bs p) = bs p + 1:=by
 unfold room; repeat' split
 all_goals simp
theorem place_in {ls:List TL} {a:io} (hp:0 <= a.fPa):place ls a = bs a.fPa\/place ls a = bs a.fPa + 1:=by
 unfold place;split
 ·rename_i n hn;rcases (at_iff.1 hn).2 with h | h
  ·exact .inl h.1
  ·exact .inr h.1
 ·exact room_in ls a.fPa
theorem tok_fill {t:Buf} (h:TOk t) (a:io):TOk (fill t a).2/\∀ l ∈ lines (fill t a).2,0 <= l.fBa->l = a/\¬ bad a\/l ∈ lines t:=by
 unfold fill;split
 ·exact ⟨h,fun l hl _=>.inr hl⟩
 ·rename_i hb;have hb':0 <= a.fBa/\0 <= a.fPa/\a.fPa < 8:=by unfold bad at hb; omega
  have hpl:=place_in (ls:=t.1) hb'.2.1;have hbs:=bs_lt hb'.2.1;have hn:place t.1 a < 8:=by omega
  have dh:=ln_set h.len hn (⟨a,i64.wrap (t.2 + 1)⟩:TL);have other:∀ i,i < 8->i ≠ place t.1 a->0 <= (ln t.1 i).fl.fBa->¬ ((ln t.1 i).fl.fBa = a.fBa/\(ln t.1 i).fl.fPa = a.fPa):=by
   rintro i hi hne he ⟨e1,e2⟩;have:=h.at_ i hi he;rw [e1,e2] at this;unfold place at hne;rw [this] at hne;exact hne rfl
  refine ⟨⟨by simpa using h.len,fun i hi he=>?_⟩,fun l hl he=>?_⟩
  ·simp only at he ⊢;rw [dh] at he ⊢;by_cases e:i = place t.1 a
   ·rw [if_pos e] at he ⊢;refine at_iff.2 ⟨hb',?_⟩;have hself:hit (t.1.set (place t.1 a) ⟨a,i64.wrap (t.2 + 1)⟩) a.fBa a.fPa (place t.1 a):=by unfold hit; rw [dh,if_pos rfl]; exact ⟨rfl,rfl⟩
    rcases hpl with h1 | h1
    ·exact .inl ⟨e.trans h1,by rw [h1] at hself ⊢; exact hself⟩
    ·refine .inr ⟨e.trans h1,by rw [h1] at hself ⊢; exact hself,fun hx=>?_⟩;have hx:hit (t.1.set (place t.1 a) ⟨a,i64.wrap (t.2 + 1)⟩) a.fBa a.fPa (bs a.fPa):=hx;unfold hit at hx;rw [dh,if_neg (by rw [h1]; omega)] at hx;exact other _ (by omega) (by rw [h1]; omega) (by rw [hx.1]; exact hb'.1) hx
   ·rw [if_neg e] at he ⊢;have h1:=at_iff.1 (h.at_ i hi he);have ho:=other i hi e he;have keep:∀ j,hit (t.1.set (place t.1 a) ⟨a,i64.wrap (t.2 + 1)⟩) (ln t.1 i).fl.fBa (ln t.1 i).fl.fPa j↔j ≠ place t.1 a/\hit t.1 (ln t.1 i).fl.fBa (ln t.1 i).fl.fPa j:=by
     intro j;unfold hit;rw [dh];by_cases ej:j = place t.1 a
     ·rw [if_pos ej];constructor
      ·rintro ⟨x,y⟩; exact absurd ⟨x.symm,y.symm⟩ ho
      ·intro x; exact absurd ej x.1
     ·rw [if_neg ej]; simp [ej]
    refine at_iff.2 ⟨h1.1,?_⟩;rcases h1.2 with ⟨x,y⟩ | ⟨x,y,z⟩
    ·exact .inl ⟨x,(keep _).2 ⟨x ▸ e,y⟩⟩
    ·exact .inr ⟨x,(keep _).2 ⟨x ▸ e,y⟩,fun u=>z ((keep _).1 u).2⟩
  ·obtain ⟨i,hi,rfl⟩:=(mem_lines (by simpa using h.len)).1 hl;simp only at he ⊢;rw [dh] at he ⊢;by_cases e:i = place t.1 a
   ·rw [if_pos e]; exact .inl ⟨rfl,hb⟩
   ·rw [if_neg e]; exact .inr ((mem_lines h.len).2 ⟨i,hi,rfl⟩)
theorem find_in {t:Buf} (h:TOk t) {e p:Int} (hf:(find t.1 e p).2 = true):(find t.1 e p).1 ∈ lines t/\(find t.1 e p).1.fBa = e/\(find t.1 e p).1.fPa = p/\0 <= e:=by
 unfold find at hf ⊢;split at hf
 ·rename_i n hn;simp only [hn];have:=at_hit hn;exact ⟨(mem_lines h.len).2 ⟨n,at_lt hn,rfl⟩,this.1,this.2,(at_iff.1 hn).1.1⟩
 ·cases hf
end Tlb
theorem cleans_spec (k:KK):∀ (L:List io) {b:Buf},Tlb.TOk b->Tlb.TOk (KK.cleans k L b)/\∀ l ∈ Tlb.lines (KK.cleans k L b),0 <= l.fBa->l ∈ Tlb.lines b/\∀ d ∈ L,KK.stale k d = true->¬ (l.fBa = d.fBa/\l.fPa = d.fPa)
 | [],b,h=>⟨h,fun l hl _=>⟨hl,fun d hd=>by cases hd⟩⟩
 | d::L,b,h=>by
  rw [KK.cleans];split
  ·rename_i hs;have h1:=Tlb.tok_flush h d.fBa d.fPa;obtain ⟨i1,i2⟩:=cleans_spec k L h1;refine ⟨i1,fun l hl he=>?_⟩;obtain ⟨j1,j2⟩:=i2 l hl he;obtain ⟨k1,k2⟩:=Tlb.lines_flush h j1 he;refine ⟨k1,fun x hx hsx=>?_⟩;rcases List.mem_cons.1 hx with rfl | hx
   ·exact k2
   ·exact j2 x hx hsx
  ·rename_i hs;obtain ⟨i1,i2⟩:=cleans_spec k L h;refine ⟨i1,fun l hl he=>?_⟩;obtain ⟨j1,j2⟩:=i2 l hl he;refine ⟨j1,fun x hx hsx=>?_⟩;rcases List.mem_cons.1 hx with rfl | hx
   ·exact absurd hsx hs
   ·exact j2 x hx hsx
theorem cleans_all {k:KK} {b:Buf} (h:Tlb.TOk b):Tlb.TOk (KK.cleans k (Tlb.lines b) b)/\∀ l ∈ Tlb.lines (KK.cleans k (Tlb.lines b) b),0 <= l.fBa->l ∈ Tlb.lines b/\KK.stale k l = false:=by
 obtain ⟨h1,h2⟩:=cleans_spec k (Tlb.lines b) h;refine ⟨h1,fun l hl he=>?_⟩;obtain ⟨a,c⟩:=h2 l hl he;refine ⟨a,?_⟩;cases hs:KK.stale k l with
 | false=>rfl
 | true=>exact absurd ⟨rfl,rfl⟩ (c l a hs)
end
end Go.Proofs.YtjcamacgclipiaaGreatDoor
