/- Part of the proof of: The law HistAll returns true for every input, and leaves its arguments as they were. -/
import Derived.Test.YtochchocdckegaaGreatDoorHistAll03
set_option linter.all false
set_option maxRecDepth 20000
namespace Go.Proofs.YtochchocdckegaaGreatDoor
open Go.Proofs.Tryz
open Go.IntKind (i64 u64)
open _root_.Int (zero_add)
open _root_.List (append_nil cons_append getElem_mem mem_cons replicate take_length)
open _root_.Nat (zero_le)
section
open Go Mb
abbrev vI (s:Sl) (xs:List Int):As:=vec lE 1 (cI .i64) s xs
def gw (a:Int):List Int->Int->Int
 | [],_=>-1
 | x::xs,i=>if a = x then i else gw a xs (i + 1)
theorem sp_slices_Index (s:Sl) (a:Int) (xs:List Int) (hb:xs.length < 2^62) :
  Sp prog kC [sv s,.int .i64 a] eN [vI s xs] (fun r=>pa_ (r = gw a xs 0) [vI s xs]):=by
 intro h st;refine vz _ _ ?_;unfold oA;refine Lp.intro (fun (i:Int) h=>∃ n:Nat,i = n/\n <= xs.length/\gw a (xs.drop n) n = gw a xs 0/\ay [vI s xs] h) (fun (i:Int) _=>xs.length - i.toNat) ⟨0,rfl,zero_le _,by simp,st⟩ ?_;rintro i h ⟨n,rfl,hn,he,st⟩;have hl:=(bY st (j:=0) rfl).1;unfold jQ;refine aX (fun k=>?_) (fun k=>?_)
 ·have hlt:n < xs.length:=by simp [hl] at k; exact k
  refine cU st (j:=0) rfl (by omega) (by omega) fun q hq=>?_;refine cX (j:=0) (i:=n) (k:=0) xs[n] (cf _) st rfl hq (by simp) (aB hlt) (by simp) ?_;have hd:xs.drop n = xs[n]::xs.drop (n + 1):=List.drop_eq_getElem_cons hlt;rw [hd] at he;refine aX (fun k2=>?_) (fun k2=>?_)
  ·have k2':a = xs[n]:=by simpa using k2
   rw [gw,if_pos k2'] at he;exact ⟨he,st⟩
  ·have k2':¬ a = xs[n]:=by simpa using k2
   rw [gw,if_neg k2'] at he;have hw:i64.wrap ((n:Int) + 1) = ((n + 1:Nat):Int):=by rw [bp (by omega) (by omega)]; rfl
   rw [hw];exact ⟨⟨n + 1,rfl,hlt,by simpa using he,st⟩,by simp; omega⟩
 ·have:n = xs.length:=by simp [hl] at k; omega
  subst this;simp only [List.drop_length,gw] at he;exact ⟨he,st⟩
def gq (x:Ptr) (p:List Int):As:=fun h=>∃ bs:Nat × Sl,(x = some (bs.1,0)/\p.length <= 16)/\ay [blk bs.1 ri [sv bs.2],vI bs.2 p] h
namespace Pool
def refs (p:List Int) (i:Int):Int:=if i < 0 then 0 else p.getD i.toNat 0
def take (p:List Int):Int × Bool × List Int :=
 if gw 0 p 0 < 0 then (0,false,p) else (gw 0 p 0,true,p.set (gw 0 p 0).toNat 1)
def hold (p:List Int) (i:Int):Bool × List Int :=
 if refs p i = 0\/refs p i >= 7 then (false,p) else (true,p.set i.toNat (i64.wrap (refs p i + 1)))
def lets (p:List Int) (i:Int):Int × Bool × List Int :=
 if refs p i = 0 then (0,false,p) else (i64.wrap (refs p i - 1),true,p.set i.toNat (i64.wrap (refs p i - 1)))
def freeFrom:List Int->Int->List Int
 | [],_=>[]
 | x::xs,i=>if x = 0 then i::freeFrom xs (i + 1) else freeFrom xs (i + 1)
def free (p:List Int):List Int:=freeFrom p 0
end Pool
theorem idx_lt (a:Int):∀ (xs:List Int) (i:Int),gw a xs i = -1\/∃ n:Nat,n < xs.length/\gw a xs i = i + n
 | [],_=>.inl rfl
 | x::xs,i=>by
  unfold gw;split
  ·exact .inr ⟨0,by simp,by simp⟩
  ·rcases idx_lt a xs (i + 1) with h | ⟨n,h1,h2⟩
   ·exact .inl h
   ·exact .inr ⟨n + 1,by simp; omega,by rw [h2]; omega⟩
theorem pool_op {x:Ptr} {p:List Int} {l:List As} {h:Hp} (s0:ay (gq x p::l) h):∃ b s,x = some (b,0)/\p.length <= 16/\s.len = p.length/\ay (blk b ri [sv s]::vI s p::l) h:=by
 obtain ⟨⟨b,s⟩,⟨hx,hb⟩,st⟩:=op_ s0;exact ⟨b,s,hx,hb,(bY (j:=1) st rfl).1,st⟩
theorem sR {b:Nat} {s:Sl} {p:List Int} {l:List As} {h:Hp} (hb:p.length <= 16) (st:ay (blk b ri [sv s]::vI s p::l) h):ay (gq (some (b,0)) p::l) h:=cl_ (b,s) ⟨rfl,hb⟩ st
theorem sp_pool_New (n:Int) (h1:¬ n < 1) (h2:¬ n > 16):Sp prog xN [.int .i64 n] td [] (fun r=>ay [gq r (replicate n.toNat 0)]):=by
 intro h st;refine sim_pool_New _ ?_;unfold sh_pool_New;obtain ⟨m,rfl⟩:=Int.eq_ofNat_of_zero_le (show 0 <= n by omega);refine dN (by simp; omega) ?_;refine oJ (τ:=Int) (x0:=0) (enc:=cI .i64) (n:=m) (T:=lE) (m:=1) kH rfl st ?_ ?_ ?_
 ·omega
 ·omega
 ·intro v h' s1;refine pC s1 fun b h'' s2=>?_;exact sR (by simp; omega) s2
theorem xi (x:Ptr) (p:List Int) (i:Int):Sp prog jV [pv x,.int .i64 i] eN [gq x p] (fun r=>pa_ (r = Pool.refs p i) [gq x p]):=by
 intro h s0;obtain ⟨b,s,rfl,hb,hl,st⟩:=pool_op s0;refine sim_pool_Pool_Refs _ _ ?_;unfold uC;refine aX (fun k=>?_) (fun k=>?_)
 ·have h0:0 <= i:=by simpa using k
  obtain ⟨n,rfl⟩:=Int.eq_ofNat_of_zero_le h0;refine cL ?_;refine bt s st (i:=0) rfl rfl rfl ?_;refine aX (fun k2=>?_) (fun k2=>?_)
  ·have:p.length <= n:=by rw [hl] at k2; simpa using k2
   exact ba (by simp [Pool.refs,this]) (sR hb st)
  ·have hlt:n < p.length:=by rw [hl] at k2; simpa using k2
   refine bt s st (i:=0) rfl rfl rfl ?_;refine cU st (j:=1) rfl (by omega) (by omega) fun q hq=>?_;refine cX (j:=1) (i:=n) (k:=0) p[n] (cf _) st rfl hq (by simp) (aB hlt) (by simp) ?_;refine ba ?_ (sR hb st);have:¬ ((n:Int) < 0):=by omega
   simp [Pool.refs,hlt,this]
 ·have h0:i < 0:=by simpa using k
  exact ba (by simp [Pool.refs,h0]) (sR hb st)
theorem xh (x:Ptr) (p:List Int):Sp prog jU [pv x] bQ [gq x p] (fun r=>pa_ (r = ((Pool.take p).1,(Pool.take p).2.1)) [gq x (Pool.take p).2.2]):=by
 intro h s0;obtain ⟨b,s,rfl,hb,hl,st⟩:=pool_op s0;refine sim_pool_Pool_Take _ ?_;unfold uB;refine dN rfl (cL ?_);refine bt s st (i:=0) rfl rfl rfl ?_;refine cW [1] (sp_slices_Index s 0 p (by omega)) st rfl fun r h' s1=>?_;obtain ⟨hr,s2⟩:=bA.1 s1;subst hr;refine aX (fun k=>?_) (fun k=>?_)
 ·have k':gw 0 p 0 < 0:=by simpa using k
  have e:Pool.take p = (0,false,p):=if_pos k';rw [e];exact ba rfl (sR hb (bd [1] s2 rfl))
 ·have k':¬ gw 0 p 0 < 0:=by simpa using k
  have e0:Pool.take p = (gw 0 p 0,true,p.set (gw 0 p 0).toNat 1):=if_neg k';rw [e0];rcases idx_lt 0 p 0 with e | ⟨n,h1,e⟩
  ·omega
  ·rw [zero_add] at e;refine bt s s2 (i:=1) rfl rfl rfl ?_;rw [e];refine cU s2 (j:=0) rfl (by omega) (by omega) fun q hq=>?_;refine uq (j:=0) (i:=n) (k:=0) (1:Int) (cf _) s2 rfl hq (by simp) (aB h1) (by simp) rfl fun h2 s3=>?_;exact ba rfl (sR (by simpa using hb) (bd [1] s3 rfl))
theorem refs_get {p:List Int} {i:Int} (h:Pool.refs p i ≠ 0):∃ n:Nat,i = n/\∃ hn:n < p.length,Pool.refs p i = p[n]:=by
 unfold Pool.refs at h ⊢;by_cases h0:i < 0
 ·rw [if_pos h0] at h; exact absurd rfl h
 ·rw [if_neg h0] at h ⊢;obtain ⟨n,rfl⟩:=Int.eq_ofNat_of_zero_le (show 0 <= i by omega);refine ⟨n,rfl,?_⟩;by_cases hn:n < p.length
  ·exact ⟨hn,by simp [hn]⟩
  ·simp [List.getD_eq_getElem?_getD,List.getElem?_eq_none (Nat.le_of_not_lt hn)] at h
theorem sp_pool_Hold (x:Ptr) (p:List Int) (i:Int):Sp prog mI [pv x,.int .i64 i] aD [gq x p] (fun r=>pa_ (r = (Pool.hold p i).1) [gq x (Pool.hold p i).2]):=by
 intro h s0;refine sim_pool_Pool_Hold _ _ ?_;unfold uD;refine cW [0] (xi x p i) s0 rfl fun r h' s1=>?_;obtain ⟨hr,s2⟩:=bA.1 s1;subst hr;refine aX (fun k=>?_) (fun k=>?_)
 ·have k':Pool.refs p i = 0\/Pool.refs p i >= 7:=by simpa using k
  have e:Pool.hold p i = (false,p):=if_pos k';rw [e];exact ba rfl s2
 ·have k':¬ (Pool.refs p i = 0\/Pool.refs p i >= 7):=by simpa using k
  have e:Pool.hold p i = (true,p.set i.toNat (i64.wrap (Pool.refs p i + 1))):=if_neg k';rw [e];obtain ⟨n,rfl,hn,hg⟩:=refs_get (p:=p) (i:=i) (by omega);obtain ⟨b,s,rfl,hb,hl,st⟩:=pool_op s2;refine cL ?_;refine bt s st (i:=0) rfl rfl rfl ?_;refine cU st (j:=1) rfl (by omega) (by omega) fun q hq=>?_;refine cX (j:=1) (i:=n) (k:=0) p[n] (cf _) st rfl hq (by simp) (aB hn) (by simp) ?_;refine uq (j:=1) (i:=n) (k:=0) (i64.wrap (p[n] + 1)) (cf _) st rfl hq (by simp) (aB hn) (by simp) rfl fun h2 s3=>?_;rw [hg];exact ba rfl (sR (by simpa using hb) s3)
theorem sp_pool_Let (x:Ptr) (p:List Int) (i:Int):Sp prog nN [pv x,.int .i64 i] bQ [gq x p] (fun r=>pa_ (r = ((Pool.lets p i).1,(Pool.lets p i).2.1)) [gq x (Pool.lets p i).2.2]):=by
 intro h s0;refine sim_pool_Pool_Let _ _ ?_;unfold wo;refine cW [0] (xi x p i) s0 rfl fun r h' s1=>?_;obtain ⟨hr,s2⟩:=bA.1 s1;subst hr;refine aX (fun k=>?_) (fun k=>?_)
 ·have k':Pool.refs p i = 0:=by simpa using k
  have e:Pool.lets p i = (0,false,p):=if_pos k';rw [e];exact ba rfl s2
 ·have k':¬ (Pool.refs p i = 0):=by simpa using k
  have e:Pool.lets p i = (i64.wrap (Pool.refs p i - 1),true,p.set i.toNat (i64.wrap (Pool.refs p i - 1))):=if_neg k';rw [e];obtain ⟨n,rfl,hn,hg⟩:=refs_get (p:=p) (i:=i) k';obtain ⟨b,s,rfl,hb,hl,st⟩:=pool_op s2;refine cL ?_;refine bt s st (i:=0) rfl rfl rfl ?_;refine cU st (j:=1) rfl (by omega) (by omega) fun q hq=>?_;refine cX (j:=1) (i:=n) (k:=0) p[n] (cf _) st rfl hq (by simp) (aB hn) (by simp) ?_;refine uq (j:=1) (i:=n) (k:=0) (i64.wrap (p[n] - 1)) (cf _) st rfl hq (by simp) (aB hn) (by simp) rfl fun h2 s3=>?_;refine bt s s3 (i:=0) rfl rfl rfl ?_;refine cU s3 (j:=1) rfl (by omega) (by simp; omega) fun q2 hq2=>?_;refine cX (j:=1) (i:=n) (k:=0) (i64.wrap (p[n] - 1)) (cf _) s3 rfl hq2 (by simp) (x:=i64.wrap (p[n] - 1)) (by simp [hn]) (by simp) ?_;rw [hg];exact ba rfl (sR (by simpa using hb) s3)
theorem free_append:∀ (xs:List Int) (i:Int) (x:Int),Pool.freeFrom (xs++[x]) i = Pool.freeFrom xs i++(if x = 0 then [i + xs.length] else [])
 | [],i,x=>by simp only [List.nil_append,Pool.freeFrom]; split <;> simp
 | y::xs,i,x=>by
  simp only [cons_append,Pool.freeFrom];rw [free_append xs (i + 1) x];have e:i + 1 + (xs.length:Int) = i + ((y::xs).length:Int):=by simp; omega
  rw [e];split <;> simp
theorem free_len:∀ (xs:List Int) (i:Int),(Pool.freeFrom xs i).length <= xs.length
 | [],_=>Nat.le_refl _
 | x::xs,i=>by unfold Pool.freeFrom; have:=free_len xs (i + 1); split <;> simp <;> omega
theorem tk {l:List As} {h:Hp} {i:Nat} {s:Sl} {xs:List Int} {x:Int} {K:Sl->Hp->Prop} (st:ay l h) (hi:l[i]? = some (vI s xs)) (hb:xs.length < 2 ^ 40)
  (k:∀ v h',ay (l.set i (vI v (xs++[x]))) h'->K v h'):hpv prog (Instr.buildSlice az 1 #[(0,.int .i64 x)]) aU (fun y=>hpv prog (Builtin.append_ #[az,az] az #[sv s,sv y]) aU K) h:=by
 refine fy (τ:=Int) [x] (val:=fun x=>.int .i64 x) (enc:=cI .i64) kH (cf _) (fun _=>rfl) st rfl rfl (by simp) fun y h' s1=>?_;have hlt:=(List.getElem?_eq_some_iff.1 hi).1;refine rK (τ:=Int) (i:=i + 1) (j:=0) (enc:=cI .i64) (ys:=[x]) kH kH.sl (cf _) (oneI _) s1 (by simpa using hi) rfl (by omega) (by simp; omega) (by simp; omega) fun v h2 s2=>?_;exact k v h2 (ce (l:=[vI y [x]]) (by simpa using s2))
theorem sp_pool_Free (x:Ptr) (p:List Int):Sp prog mJ [pv x] aU [gq x p] (fun r=>ay [vI r (Pool.free p),gq x p]):=by
 intro h s0;obtain ⟨b,s,rfl,hb,hl,st⟩:=pool_op s0;refine sim_pool_Pool_Free _ ?_;unfold uE;refine dN rfl (cL ?_);refine bt s st (i:=0) rfl rfl rfl ?_;refine Lp.intro (fun (z:Sl × Int) h=>∃ n:Nat,z.2 = n/\n <= p.length/\ay [vI z.1 (Pool.freeFrom (p.take n) 0),blk b ri [sv s],vI s p] h) (fun (z:Sl × Int) _=>p.length - z.2.toNat) ⟨0,rfl,zero_le _,fu st⟩ ?_;rintro ⟨z,i⟩ h ⟨n,rfl,hn,s1⟩;unfold pA;refine aX (fun k=>?_) (fun k=>?_)
 ·have hlt:n < p.length:=by rw [hl] at k; simpa using k
  have hw:i64.wrap ((n:Int) + 1) = ((n + 1:Nat):Int):=by rw [bp (by omega) (by omega)]; rfl
  have ht:p.take (n + 1) = p.take n++[p[n]]:=by simp
  have hlen:((p.take n).length:Int) = n:=by simp; omega
  refine cU s1 (j:=2) rfl (by omega) (by show (n:Int) < _; omega) fun q hq=>?_;refine cX (j:=2) (i:=n) (k:=0) p[n] (cf _) s1 rfl hq (by simp) (aB hlt) (by simp) ?_;refine aX (fun k2=>?_) (fun k2=>?_)
  ·have k2':p[n] = 0:=by simpa using k2
   refine tk s1 (i:=0) rfl ?_ fun v h' s2=>?_
   ·have:=free_len (p.take n) 0; simp at this ⊢; omega
   ·rw [hw];refine ⟨⟨n + 1,rfl,hlt,?_⟩,by simp; omega⟩;rw [ht,free_append,if_pos k2',hlen,zero_add];exact s2
  ·have k2':¬ p[n] = 0:=by simpa using k2
   rw [hw];refine ⟨⟨n + 1,rfl,hlt,?_⟩,by simp; omega⟩;rw [ht,free_append,if_neg k2',append_nil];exact s1
 ·have:n = p.length:=by rw [hl] at k; simp at k; omega
  subst this;rw [take_length] at s1;exact kV (.cons _ (.refl _)) (bd (l:=[vI z (Pool.freeFrom p 0),gq (some (b,0)) p]) [0] (by
   have:=bd [1,1] s1 rfl;exact bd [1] (sR hb this) rfl) rfl)
def Pool.bitsOf (w:Int):List Int->Int
 | []=>w
 | i::l=>Pool.bitsOf (ior .u64 w (u64.wrap (1 * 2 ^ (min (Int.toNat i) (IntKind.bits .u64))))) l
def Pool.bits (p:List Int):Int:=Pool.bitsOf 0 (Pool.free p)
theorem free_ge:∀ (xs:List Int) (i:Int),0 <= i->∀ j ∈ Pool.freeFrom xs i,0 <= j
 | [],_,_,_,h=>by cases h
 | x::xs,i,hi,j,h=>by
  unfold Pool.freeFrom at h;split at h
  ·rcases mem_cons.1 h with rfl | h
   ·exact hi
   ·exact free_ge xs (i + 1) (by omega) j h
  ·exact free_ge xs (i + 1) (by omega) j h
theorem bits_append (a:Int):∀ (l:List Int) (w:Int),Pool.bitsOf w (l++[a]) = ior .u64 (Pool.bitsOf w l) (u64.wrap (1 * 2 ^ (min (Int.toNat a) (IntKind.bits .u64))))
 | [],_=>rfl
 | _::l,w=>by simp only [cons_append,Pool.bitsOf]; exact bits_append a l _
theorem sp_pool_Bits (x:Ptr) (p:List Int):Sp prog qK [pv x] ic [gq x p] (fun r=>pa_ (r = Pool.bits p) [gq x p]):=by
 intro h s0;have hp16:p.length <= 16:=by obtain ⟨_,_,_,hb,_⟩:=pool_op s0; exact hb
 refine sim_pool_Pool_Bits _ ?_;unfold uF;refine cW [0] (sp_pool_Free x p) s0 rfl fun r h1 s1=>?_;have s2:=dq s1;have hl:=(bY (j:=0) s2 rfl).1;have hfl:=free_len p 0;refine Lp.intro (fun (z:Int × Int) h=>∃ n:Nat,z.2 = n/\n <= (Pool.free p).length/\z.1 = Pool.bitsOf 0 ((Pool.free p).take n)/\ay [vI r (Pool.free p),gq x p] h) (fun (z:Int × Int) _=>(Pool.free p).length - z.2.toNat) ⟨0,rfl,zero_le _,rfl,s2⟩ ?_;rintro ⟨w,i⟩ h ⟨n,rfl,hn,rfl,s3⟩;unfold pB;refine aX (fun k=>?_) (fun k=>?_)
 ·have hlt:n < (Pool.free p).length:=by rw [hl] at k; simpa using k
  have hw:i64.wrap ((n:Int) + 1) = ((n + 1:Nat):Int):=by
   have:(Pool.free p).length <= 16:=by unfold Pool.free; omega
   rw [bp (by omega) (by omega)]; rfl
  refine cU s3 (j:=0) rfl (by omega) (by show (n:Int) < _; omega) fun q hq=>?_;refine cX (j:=0) (i:=n) (k:=0) (Pool.free p)[n] (cf _) s3 rfl hq (by simp) (aB hlt) (by simp) ?_;refine ⟨free_ge p 0 (Int.le_refl _) _ (getElem_mem hlt),?_⟩;rw [hw];refine ⟨⟨n + 1,rfl,hlt,?_,s3⟩,by simp; omega⟩;have ht:(Pool.free p).take (n + 1) = (Pool.free p).take n++[(Pool.free p)[n]]:=by simp
  rw [ht,bits_append]
 ·have:n = (Pool.free p).length:=by rw [hl] at k; simp at k; omega
  subst this;refine ba ?_ (ce (l:=[vI r (Pool.free p)]) s3);rw [take_length]; rfl
end
section
open Go Mb
def ji (a0:Ptr) (a1:Int) (K:kT (an × Bool)) (s1:Bool):hT:=br s1 ( K ((⟨0,0,0⟩:an),false)) ( nn a0 fun q26=>gd (0 <= a1/\a1 < 8)<|ld (q26.1,q26.2 + 0 + Int.toNat a1 * 3) an.C fun x29=>K (x29,true))
def uA (a0:Ptr) (a1:Int) (K:kT (an × Bool)):hT:=br (!(a0.isNone || (!(cH a1)))) ( nn a0 fun q16=>gd (0 <= a1/\a1 < 8)<|ld (q16.1,q16.2 + 0 + Int.toNat a1 * 3 + 2) (cI .i64) fun x20=>ji a0 a1 K (x20 == 0)) ( ji a0 a1 K true)
theorem sim_table_Table_At (a0:Ptr) (a1:Int) {K:kT (an × Bool)} {h:Hp} (H:uA a0 a1 K h):cl prog fD [(pv a0),(.int .i64 a1)] cF K h:=z_i func121 p p fun _=>O<|aa<|aT (l:=an.C (⟨0,0,0⟩:an)) fo p p fun b4=>U p<|ai<|dY (ji a0 a1 K) (fun s1=>[(0,(pv a0)),(1,(.int .i64 a1)),(4,(.pointer (some ⟨b4,0,none⟩))),(22,(.bool s1))]) (fun s1=>[bx b4 113 (an.C (⟨0,0,0⟩:an))]) (am<|M p<|J (cy underlying121 p)<|M p<|W p p (aL _) (fun g10=>wv<|ag p)<|dk (vs:=[(.int .i64 a1)]) p p p (aL _) (fun g11=>bu<|vq a1 _) en_118 (fun g11=>aZ (aC p g11) bX) p<|W p p (aL _) (fun g12=>wv<|cw<|aC p g12)<|J (dy p p)<|M p<|W p p (aL _) (fun g13=>wv<|ag p)<|W p p (aL _) (fun g14=>wv<|ag p)<|bS H (fun k16 H17=>bL H17 fun q16 e18 H19=>z_O (Z<|cg k16)<|z_p (aP<|aJ (aC p k16)<|au e18)<|z_O (Z<|cg k16)<|z_p (ae kX p)<|jG H19 fun h20 H21=>z_O (Z<|cg k16)<|z_p (bH tc p (aC p k16) h20)<|z_O (Z<|cg k16)<|z_p (ae eC p)<|z_O (Z<|cg k16)<|aY H21 aR p (fun _=>p) p fun x20 H22=>z_O (Z<|cg k16)<|z_p (bM p p)<|J (ap p (cg k16) p)<|ad<|ct (x20 == 0) H22 (.cons p<|.cons p<|.cons p<|.cons p<|.nil _)<|.cons_cons _ .slnil) fun k16 H17=>Y (be<|bG k16)<|Y (be<|bG k16)<|Y (be<|bG k16)<|Y (be<|bG k16)<|Y (be<|bG k16)<|Y (be<|bG k16)<|J (aI p (bG k16) p)<|ad<|ct true H17 (.cons p<|.cons p<|.cons p<|.cons p<|.nil _)<|.cons_cons _ .slnil) fun s1 _ H2=>av p H2 (fun k3 H4=>O<|J (bg (vs:=[]) p kY)<|aa<|aV (k:=0) (vs:=an.C (⟨0,0,0⟩:an)) dp p p p p p p p<|U p<|ah<|bE (bW p (bJ (k:=0) p eu p p)<|cj p) ⟨((⟨0,0,0⟩:an),false),p,H4⟩) fun k3 H4=>ak<|O<|M p<|M p<|bL H4 fun q26 e5 H6=>J (aP<|aJ p<|au e5)<|J (ae kX p)<|jG H6 fun h7 H8=>J (bH tc p p h7)<|aa<|ga H8 eu p (fun _=>p) p fun x29 H9=>aa<|aV (k:=0) (vs:=an.C x29) dp p p p p p p p<|U p<|ah<|bE (bW p (bJ (k:=0) p eu p p)<|cj p) ⟨(x29,true),p,H9⟩
def sh_table_New (K:kT Ptr):hT:=hpv prog (Instr.build kU #[]) encL fun (v1:(List Value))=>nw kU v1 fun b2=>K (some (b2,0))
theorem sim_table_New {K:kT Ptr} {h:Hp} (H:sh_table_New K h):cl prog lV [] iT K h:=z_i func73 p p fun _=>O<|U p<|O<|aa<|aF H (x_build (vs:=[]) p) p fun v1 _ H1=>aa<|iF p p p H1 fun b2 _ H2=>U p<|ah<|F ⟨some (b2,0),p,H2⟩
def qe (a0:Ptr) (a1:Int) (a2:an) (K:kT Int):hT:=br a0.isNone ( K 10) ( br (((!(gS a2).2) || (a2.fBa == 0)) || (!(cH a1))) ( K 2) ( nn a0 fun q30=>gd (0 <= a1/\a1 < 8)<|ld (q30.1,q30.2 + 0 + Int.toNat a1 * 3 + 2) (cI .i64) fun x34=>br (x34 != 0) ( K 4) ( st (q30.1,q30.2 + 0 + Int.toNat a1 * 3) (an.C a2)<|K 0)))
theorem xn (a0:Ptr) (a1:Int) (a2:an) {K:kT Int} {h:Hp} (H:qe a0 a1 a2 K h):cl prog eR [(pv a0),(.int .i64 a1),(.agg (an.C a2).toArray)] bn K h:=z_i func74 p p fun _=>O<|aa<|cz (l:=an.C a2) p p p fun b5=>U p<|ai<|O<|M p<|J (cy underlying121 p)<|ad<|av p H (fun k1 H2=>O<|U p<|ah<|F ⟨10,p,H2⟩) fun k1 H2=>ak<|ai<|O<|bo (bK (k:=0) eu p p p p) p<|aa<|cu (vs:=[(.agg (an.C a2).toArray)]) (bu<|ct_pte_Put a2 _) en_117 p p<|M p<|J (aj p p)<|J (aj p p)<|J (ar p)<|U p<|O<|M p<|J (cw p)<|M p<|W p p (aL _) (fun g3=>wv<|ae eC p)<|W p p (aL _) (fun g4=>cv<|bc (k:=0) aR (aC p g4) p p)<|W p p (aL _) (fun g5=>wv<|bM (aC p g5) p)<|J (dy p p)<|M p<|W p p (aL _) (fun g6=>wv<|ag p)<|dk (vs:=[(.int .i64 a1)]) p p p (aL _) (fun g7=>bu<|vq a1 _) en_118 (fun g7=>aZ (aC p g7) bX) p<|W p p (aL _) (fun g8=>wv<|cw<|aC p g8)<|J (dy p p)<|ad<|av p H2 (fun k9 H10=>O<|U p<|ah<|F ⟨2,p,H10⟩) fun k9 H10=>ak<|ai<|O<|M p<|M p<|bL H10 fun q30 e11 H12=>J (aP<|aJ p<|au e11)<|J (ae kX p)<|jG H12 fun h13 H14=>J (bH tc p p h13)<|J (ae eC p)<|aa<|aY H14 aR p (fun _=>p) p fun x34 H15=>J (nS p p)<|ad<|av p H15 (fun k16 H17=>O<|U p<|ah<|F ⟨4,p,H17⟩) fun k16 H17=>ak<|ai<|bk (n:=7) [bx b5 113 (an.C a2)] ch p (.cons_cons _ .slnil)<|V 0 p (ag<|aJ p<|au e11)<|V 1 p (ag p)<|z_E 2 p (eP (k:=0) eu p p p p)<|V 3 p (aP p)<|V 4 p (ae kX p)<|V 5 p (bH tc p p h13)<|R 6 p<|dx dp p p p p p H17 fun _ H18=>⟨.cons_cons _ .slnil,aG (by kernel_rfl)<|O<|U p<|ah<|F ⟨0,p,H18⟩⟩
def qd (a0:Ptr) (a1:Int) (K:kT (an × Int)):hT:=br a0.isNone ( K ((⟨0,0,0⟩:an),10)) ( br (!(cH a1)) ( K ((⟨0,0,0⟩:an),2)) ( nn a0 fun q19=>gd (0 <= a1/\a1 < 8)<|ld (q19.1,q19.2 + 0 + Int.toNat a1 * 3 + 2) (cI .i64) fun x23=>br (x23 == 0) ( K ((⟨0,0,0⟩:an),3)) ( ld (q19.1,q19.2 + 0 + Int.toNat a1 * 3) an.C fun x31=>st (q19.1,q19.2 + 0 + Int.toNat a1 * 3) (an.C (⟨0,0,0⟩:an))<|K (x31,0))))
theorem xm (a0:Ptr) (a1:Int) {K:kT (an × Int)} {h:Hp} (H:qd a0 a1 K h):cl prog jp [(pv a0),(.int .i64 a1)] jN K h:=z_i func87 p p fun _=>O<|aa<|aT (l:=an.C (⟨0,0,0⟩:an)) fo p p fun b4=>U p<|ai<|aw<|O<|M p<|J (cy underlying121 p)<|U p<|av p H (fun k1 H2=>O<|J (bg (vs:=[]) p kY)<|aa<|aV (k:=0) (vs:=an.C (⟨0,0,0⟩:an)) dp p p p p p p p<|U p<|ah<|bE (bW p (bJ (k:=0) p eu p p)<|cj p) ⟨((⟨0,0,0⟩:an),10),p,H2⟩) fun k1 H2=>O<|M p<|aa<|cu (vs:=[(.int .i64 a1)]) (bu<|vq a1 _) en_118 p p<|J (cw p)<|U p<|av p H2 (fun k3 H4=>O<|J (bg (vs:=[]) p kY)<|aa<|aV (k:=0) (vs:=an.C (⟨0,0,0⟩:an)) dp p p p p p p p<|U p<|ah<|bE (bW p (bJ (k:=0) p eu p p)<|cj p) ⟨((⟨0,0,0⟩:an),2),p,H4⟩) fun k3 H4=>O<|M p<|M p<|bL H4 fun q19 e5 H6=>J (aP<|aJ p<|au e5)<|J (ae kX p)<|jG H6 fun h7 H8=>J (bH tc p p h7)<|J (ae eC p)<|aa<|aY H8 aR p (fun _=>p) p fun x23 H9=>J (bM p p)<|U p<|av p H9 (fun k10 H11=>O<|J (bg (vs:=[]) p kY)<|aa<|aV (k:=0) (vs:=an.C (⟨0,0,0⟩:an)) dp p p p p p p p<|U p<|ah<|bE (bW p (bJ (k:=0) p eu p p)<|cj p) ⟨((⟨0,0,0⟩:an),3),p,H11⟩) fun k10 H11=>ak<|O<|M (aJ p<|au e5)<|M p<|J (aP p)<|J (ae kX p)<|J (bH tc p p h7)<|aa<|ga H11 eu p (fun _=>p) p fun x31 H12=>aa<|aT (l:=an.C (⟨0,0,0⟩:an)) fo p p fun b6=>aa<|aV (k:=0) (vs:=an.C x31) dp p p p p p p p<|ad<|O<|M (aJ p<|au e5)<|M p<|J (bg (vs:=[]) p kY)<|J (aP p)<|J (ae kX p)<|J (bH tc p p h7)<|aa<|dx dp p p p p p H12 fun _ H13=>ad<|O<|bo (bK (k:=0) eu p p p p) p<|aa<|aV (k:=1) (vs:=an.C x31) dp p p p p p p p<|U p<|ah<|bE (bW p (bJ (k:=1) p eu p p)<|cj p) ⟨(x31,0),p,H13⟩
def oW (a1:Int) (K:kT Sl) (v13:(List Value)) (Rec8:kT (Sl × Int)) (s7:Sl × Int):hT:=br (decide (s7.2 < 8)) ( hpv prog (Instr.index ux (.agg v13.toArray) (.int .i64 s7.2)) wX fun (v17:an)=>br ((v17.fBa != 0) && (v17.fEa == a1)) ( hpv prog (Instr.buildSlice az 1 #[(0,(.int .i64 s7.2))]) aU fun (v29:Sl)=>hpv prog (Builtin.append_ #[az,az] az #[(sv s7.1),(sv v29)]) aU fun (v30:Sl)=>Rec8 (v30,(i64.wrap (s7.2 + 1)))) ( Rec8 (s7.1,(i64.wrap (s7.2 + 1))))) ( K s7.1)
def uz (a0:Ptr) (a1:Int) (K:kT Sl):hT:=br a0.isNone ( K (⟨none,0,0,none⟩:Sl)) ( nn a0 fun q11=>hpv prog (Instr.loadAt ux (.pointer (some ⟨q11.1,q11.2 + 0,none⟩))) encL fun (v13:(List Value))=>Lp (oW a1 K v13) ((⟨none,0,0,none⟩:Sl),0))
theorem sim_table_Table_By (a0:Ptr) (a1:Int) {K:kT Sl} {h:Hp} (H:uz a0 a1 K h):cl prog mH [(pv a0),(.int .i64 a1)] aU K h:=z_i func136 p p fun _=>O<|U p<|ai<|O<|M p<|J (cy underlying121 p)<|ad<|av p H (fun k1 H2=>O<|U p<|ah<|F ⟨(⟨none,0,0,none⟩:Sl),p,H2⟩) fun k1 H2=>ak<|O<|U p<|ai<|O<|M p<|bL H2 fun q11 e3 H4=>J (aP<|aJ p<|au e3)<|J (ae kX p)<|aa<|aF H4 (x_load p) p fun v13 _ H6=>M p<|ad<|aw<|bv (step:=oW a1 K v13) (fun s7=>[(1,(.int .i64 a1)),(5,(sv s7.1)),(13,(.agg v13.toArray)),(14,(.int .i64 s7.2))]) (fun s7=>[]) H6 (.cons p<|.cons p<|.cons p<|.cons p<|.nil _) .slnil fun Rec8 s7 _ H9=>O<|J (bZ p p)<|ad<|ai<|av p H9 (fun k10 H11=>ak<|ai<|aw<|O<|M p<|aa<|aF H11 (x_index p p) p fun v17 _ H12=>aa<|aT (l:=an.C (⟨0,0,0⟩:an)) fo p p fun b7=>J (ar p)<|aa<|aV (k:=0) (vs:=an.C v17) dp p p p p p p p<|ad<|O<|J (ae eC p)<|bo (bc (k:=0) aR p p p) p<|J (nS p p)<|M p<|W p p (aA _) (fun g13=>wv<|ae qU p)<|W p p (aA _) (fun g14=>cv<|bc (k:=0) aR (aC p g14) p p)<|W p p (aA _) (fun g15=>wv<|ag p)<|W p p (aA _) (fun g16=>wv<|bM (aC p g16)<|aC p g16)<|J (bN p p)<|ad<|av p H12 (fun k17 H18=>am<|M p<|M p<|aa<|aF H18 (bh (vs:=[(.int .i64 s7.2)]) p) p fun v29 _ H19=>aa<|aF H19 (bz p p) p fun v30 _ H20=>U p<|am<|J (bb p p)<|M p<|ad<|bU (v30,(i64.wrap (s7.2 + 1))) H20 (.cons p<|.cons p<|.cons p<|.cons p<|.nil _)<|.cons _ .slnil) fun k17 H18=>ak<|am<|J (bb p p)<|M p<|ad<|bU (s7.1,(i64.wrap (s7.2 + 1))) H18 (.cons p<|.cons p<|.cons p<|.cons p<|.nil _)<|.cons _ .slnil) fun k10 H11=>bf<|O<|M p<|U p<|ah<|F ⟨s7.1,p,H11⟩
def ph (a0:Ptr) (a1:Int) (a2:Int) (K:kT Int):hT:=br a0.isNone ( K 10) ( br ((!(cH a1)) || (!(cK a2))) ( K 2) ( nn a0 fun q22=>gd (0 <= a1/\a1 < 8)<|ld (q22.1,q22.2 + 0 + Int.toNat a1 * 3 + 2) (cI .i64) fun x26=>br (x26 == 0) ( K 3) ( st (q22.1,q22.2 + 0 + Int.toNat a1 * 3 + 2) [.int .i64 a2]<|K 0)))
theorem wa (a0:Ptr) (a1:Int) (a2:Int) {K:kT Int} {h:Hp} (H:ph a0 a1 a2 K h):cl prog lf [(pv a0),(.int .i64 a1),(.int .i64 a2)] bn K h:=z_i func138 p p fun _=>O<|U p<|ai<|aw<|O<|M p<|J (cy underlying121 p)<|U p<|av p H (fun k1 H2=>O<|U p<|ah<|F ⟨10,p,H2⟩) fun k1 H2=>O<|M p<|aa<|cu (vs:=[(.int .i64 a1)]) (bu<|vq a1 _) en_118 p p<|J (cw p)<|M p<|W p p (aL _) (fun g3=>wv<|ag p)<|dk (vs:=[(.int .i64 a2)]) p p p (aL _) (fun g4=>bu<|qV a2 _) en_112 (fun g4=>aZ (aC p g4) bX) p<|W p p (aL _) (fun g5=>wv<|cw<|aC p g5)<|J (dy p p)<|U p<|av p H2 (fun k6 H7=>O<|U p<|ah<|F ⟨2,p,H7⟩) fun k6 H7=>O<|M p<|M p<|bL H7 fun q22 e8 H9=>J (aP<|aJ p<|au e8)<|J (ae kX p)<|jG H9 fun h10 H11=>J (bH tc p p h10)<|J (ae eC p)<|aa<|aY H11 aR p (fun _=>p) p fun x26 H12=>J (bM p p)<|U p<|av p H12 (fun k13 H14=>O<|U p<|ah<|F ⟨3,p,H14⟩) fun k13 H14=>ak<|O<|M (aJ p<|au e8)<|M p<|M p<|J (aP p)<|J (ae kX p)<|J (bH tc p p h10)<|J (ae eC p)<|aa<|dx mo p p p p p H14 fun _ H15=>ad<|O<|U p<|ah<|F ⟨0,p,H15⟩
end
section
open Go Mb
abbrev Pte:=an
theorem jJ (p:Pte):p.C.length = 3:=rfl
abbrev eW:Pte:=⟨0,0,0⟩
def df (x:Ptr) (ps:List Pte):As:=fun h=>∃ b:Nat,(x = some (b,0)/\ps.length = 8)/\ay [blk b kU ([]++(ps.flatMap an.C++[]))] h
theorem table_op {x:Ptr} {ps:List Pte} {l:List As} {h:Hp} (s0:ay (df x ps::l) h):∃ b,x = some (b,0)/\ps.length = 8/\ay (blk b kU ([]++(ps.flatMap an.C++[]))::l) h:=by
 obtain ⟨b,⟨hx,hb⟩,st⟩:=op_ s0;exact ⟨b,hx,hb,st⟩
theorem jh {b:Nat} {ps:List Pte} {l:List As} {h:Hp} (hb:ps.length = 8) (st:ay (blk b kU ([]++(ps.flatMap an.C++[]))::l) h):ay (df (some (b,0)) ps::l) h:=cl_ b ⟨rfl,hb⟩ st
namespace Table
def at_ (ps:List Pte) (i:Int):Pte:=ps.getD i.toNat eW
def get (ps:List Pte) (i:Int):Pte × Bool:=if cH i = true/\(at_ ps i).fBa ≠ 0 then (at_ ps i,true) else (eW,false)
def insert (ps:List Pte) (i:Int) (p:Pte):Int × List Pte :=
 if (gS p).2 = false\/p.fBa = 0\/cH i = false then (2,ps) else if (at_ ps i).fBa ≠ 0 then (4,ps) else (0,ps.set i.toNat p)
def protect (ps:List Pte) (i r:Int):Int × List Pte :=
 if cH i = false\/cK r = false then (2,ps) else if (at_ ps i).fBa = 0 then (3,ps) else (0,ps.set i.toNat { at_ ps i with fBa:=r })
def remove (ps:List Pte) (i:Int):(Pte × Int) × List Pte :=
 if cH i = false then ((eW,2),ps) else if (at_ ps i).fBa = 0 then ((eW,3),ps) else ((at_ ps i,0),ps.set i.toNat eW)
def byFrom (s:Int):List Pte->Int->List Int
 | [],_=>[]
 | p::ps,i=>if p.fBa ≠ 0/\p.fEa = s then i::byFrom s ps (i + 1) else byFrom s ps (i + 1)
def by_ (ps:List Pte) (s:Int):List Int:=byFrom s ps 0
end Table
theorem table_is {i:Int} (h:cH i = true):∃ n:Nat,i = n/\n < 8:=by
 unfold cH at h;simp at h;exact ⟨i.toNat,by omega,by omega⟩
theorem table_new_run (K:Value->Hp->Prop) (h:Hp):hp prog (Instr.build kU #[]) K h = K (.agg ((replicate 8 eW).flatMap an.C).toArray) h:=by kernel_rfl
theorem oY:Sp prog lV [] iT [] (fun r=>ay [df r (replicate 8 eW)]):=by
 intro h st;refine sim_table_New ?_;unfold sh_table_New;refine ⟨?_⟩;rw [table_new_run];refine ⟨_,rfl,?_⟩;refine pC st fun b h' s1=>?_;exact jh rfl s1
theorem kM (x:Ptr) (ps:List Pte) (i:Int) (p:Pte):Sp prog eR [pv x,.int .i64 i,.agg p.C.toArray] bn [df x ps] (fun r=>pa_ (r = (Table.insert ps i p).1) [df x (Table.insert ps i p).2]):=by
 intro h s0;obtain ⟨b,rfl,hb,st⟩:=table_op s0;refine xn _ _ _ ?_;unfold qe;refine dN rfl ?_;refine aX (fun k=>?_) (fun k=>?_)
 ·have k':(gS p).2 = false\/p.fBa = 0\/cH i = false:=by simpa [or_assoc] using k
  have e:Table.insert ps i p = (2,ps):=if_pos k';rw [e];exact ba rfl (jh hb st)
 ·have k':¬ ((gS p).2 = false\/p.fBa = 0\/cH i = false):=by simp at k; simp [k]
  obtain ⟨n,rfl,hn⟩:=table_is (i:=i) (by simp at k'; exact k'.2.2);have hn':n < ps.length:=by omega
  have hat:Table.at_ ps n = ps[n]:=by simp [Table.at_,hn']
  refine cL ⟨⟨by omega,by omega⟩,?_⟩;refine ld_a (j:=0) (i:=n) (k:=2) ps[n].fBa jJ st rfl (by simp) (aB hn') (c1 rfl rfl) ?_;refine aX (fun k2=>?_) (fun k2=>?_)
  ·have k2':(Table.at_ ps n).fBa ≠ 0:=by rw [hat]; simpa using k2
   have e:Table.insert ps n p = (4,ps):=by unfold Table.insert; rw [if_neg k',if_pos k2']
   rw [e];exact ba rfl (jh hb st)
  ·have k2':¬ (Table.at_ ps n).fBa ≠ 0:=by rw [hat]; simpa using k2
   have e:Table.insert ps n p = (0,ps.set n p):=by unfold Table.insert; rw [if_neg k',if_neg k2']; rfl
   rw [e];refine st_a (j:=0) (i:=n) (k:=0) p jJ st rfl (by simp) (aB hn') (by simp [jJ]) rfl fun h2 s2=>?_;exact ba rfl (jh (by simpa using hb) s2)
theorem sp_table_Protect (x:Ptr) (ps:List Pte) (i r:Int):Sp prog lf [pv x,.int .i64 i,.int .i64 r] bn [df x ps] (fun v=>pa_ (v = (Table.protect ps i r).1) [df x (Table.protect ps i r).2]):=by
 intro h s0;obtain ⟨b,rfl,hb,st⟩:=table_op s0;refine wa _ _ _ ?_;unfold ph;refine dN rfl ?_;refine aX (fun k=>?_) (fun k=>?_)
 ·have k':cH i = false\/cK r = false:=by simpa using k
  have e:Table.protect ps i r = (2,ps):=if_pos k';rw [e];exact ba rfl (jh hb st)
 ·have k':¬ (cH i = false\/cK r = false):=by simp at k; simp [k]
  obtain ⟨n,rfl,hn⟩:=table_is (i:=i) (by simp at k'; exact k'.1);have hn':n < ps.length:=by omega
  have hat:Table.at_ ps n = ps[n]:=by simp [Table.at_,hn']
  refine cL ⟨⟨by omega,by omega⟩,?_⟩;refine ld_a (j:=0) (i:=n) (k:=2) ps[n].fBa jJ st rfl (by simp) (aB hn') (c1 rfl rfl) ?_;refine aX (fun k2=>?_) (fun k2=>?_)
  ·have k2':(Table.at_ ps n).fBa = 0:=by rw [hat]; simpa using k2
   have e:Table.protect ps n r = (3,ps):=by unfold Table.protect; rw [if_neg k',if_pos k2']
   rw [e];exact ba rfl (jh hb st)
  ·have k2':¬ (Table.at_ ps n).fBa = 0:=by rw [hat]; simpa using k2
   have e:Table.protect ps n r = (0,ps.set n { ps[n] with fBa:=r }):=by unfold Table.protect; rw [if_neg k',if_neg k2',hat]; rfl
   rw [e];refine st_a (j:=0) (i:=n) (k:=2) { ps[n] with fBa:=r } jJ st rfl (by simp) (aB hn') (by simp) rfl fun h2 s2=>?_;exact ba rfl (jh (by simpa using hb) s2)
theorem sp_table_Remove (x:Ptr) (ps:List Pte) (i:Int):Sp prog jp [pv x,.int .i64 i] jN [df x ps] (fun v=>pa_ (v = (Table.remove ps i).1) [df x (Table.remove ps i).2]):=by
 intro h s0;obtain ⟨b,rfl,hb,st⟩:=table_op s0;refine xm _ _ ?_;unfold qd;refine dN rfl ?_;refine aX (fun k=>?_) (fun k=>?_)
 ·have k':cH i = false:=by simpa using k
  have e:Table.remove ps i = ((eW,2),ps):=if_pos k';rw [e];exact ba rfl (jh hb st)
 ·have k':¬ (cH i = false):=by simp at k; simp [k]
  obtain ⟨n,rfl,hn⟩:=table_is (i:=i) (by simp at k'; exact k');have hn':n < ps.length:=by omega
  have hat:Table.at_ ps n = ps[n]:=by simp [Table.at_,hn']
  refine cL ⟨⟨by omega,by omega⟩,?_⟩;refine ld_a (j:=0) (i:=n) (k:=2) ps[n].fBa jJ st rfl (by simp) (aB hn') (c1 rfl rfl) ?_;refine aX (fun k2=>?_) (fun k2=>?_)
  ·have k2':(Table.at_ ps n).fBa = 0:=by rw [hat]; simpa using k2
   have e:Table.remove ps n = ((eW,3),ps):=by unfold Table.remove; rw [if_neg k',if_pos k2']
   rw [e];exact ba rfl (jh hb st)
  ·have k2':¬ (Table.at_ ps n).fBa = 0:=by rw [hat]; simpa using k2
   have e:Table.remove ps n = ((ps[n],0),ps.set n eW):=by unfold Table.remove; rw [if_neg k',if_neg k2',hat]; rfl
   rw [e];refine ld_a (j:=0) (i:=n) (k:=0) ps[n] jJ st rfl (by simp) (aB hn') (by simp) ?_;refine st_a (j:=0) (i:=n) (k:=0) eW jJ st rfl (by simp) (aB hn') (by simp [jJ]) rfl fun h2 s2=>?_;exact ba rfl (jh (by simpa using hb) s2)
theorem oz (x:Ptr) (ps:List Pte) (i:Int):Sp prog fD [pv x,.int .i64 i] cF [df x ps] (fun v=>pa_ (v = Table.get ps i) [df x ps]):=by
 intro h s0;obtain ⟨b,rfl,hb,st⟩:=table_op s0;refine sim_table_Table_At _ _ ?_;unfold uA;refine aX (fun k=>?_) (fun k=>?_)
 ·have k':cH i = true:=by simpa using k
  obtain ⟨n,rfl,hn⟩:=table_is k';have hn':n < ps.length:=by omega
  have hat:Table.at_ ps n = ps[n]:=by simp [Table.at_,hn']
  refine cL ⟨⟨by omega,by omega⟩,?_⟩;refine ld_a (j:=0) (i:=n) (k:=2) ps[n].fBa jJ st rfl (by simp) (aB hn') (c1 rfl rfl) ?_;unfold ji;refine aX (fun k2=>?_) (fun k2=>?_)
  ·have k2':(Table.at_ ps n).fBa = 0:=by rw [hat]; simpa using k2
   have e:Table.get ps n = (eW,false):=if_neg (fun hh=>hh.2 k2');rw [e];exact ba rfl (jh hb st)
  ·have k2':¬ (Table.at_ ps n).fBa = 0:=by rw [hat]; simpa using k2
   have e:Table.get ps n = (ps[n],true):=by unfold Table.get; rw [if_pos ⟨k',k2'⟩,hat]
   rw [e];refine cL ⟨⟨by omega,by omega⟩,?_⟩;refine ld_a (j:=0) (i:=n) (k:=0) ps[n] jJ st rfl (by simp) (aB hn') (by simp) ?_;exact ba rfl (jh hb st)
 ·have k':¬ cH i = true:=by simpa using k
  have e:Table.get ps i = (eW,false):=if_neg (fun hh=>k' hh.1);rw [e];unfold ji;exact eG rfl (ba rfl (jh hb st))
theorem by_append (s:Int):∀ (ps:List Pte) (i:Int) (p:Pte),Table.byFrom s (ps++[p]) i = Table.byFrom s ps i++(if p.fBa ≠ 0/\p.fEa = s then [i + ps.length] else [])
 | [],i,p=>by simp only [List.nil_append,Table.byFrom]; split <;> simp
 | y::ps,i,p=>by
  simp only [cons_append,Table.byFrom];rw [by_append s ps (i + 1) p];have e:i + 1 + (ps.length:Int) = i + ((y::ps).length:Int):=by simp; omega
  rw [e];split <;> simp
theorem by_len (s:Int):∀ (ps:List Pte) (i:Int),(Table.byFrom s ps i).length <= ps.length
 | [],_=>Nat.le_refl _
 | p::ps,i=>by unfold Table.byFrom; have:=by_len s ps (i + 1); split <;> simp <;> omega
theorem sp_table_By (x:Ptr) (ps:List Pte) (s:Int):Sp prog mH [pv x,.int .i64 s] aU [df x ps] (fun r=>ay [vI r (Table.by_ ps s),df x ps]):=by
 intro h s0;obtain ⟨b,rfl,hb,st⟩:=table_op s0;refine sim_table_Table_By _ _ ?_;unfold uz;refine dN rfl (cL ?_);obtain ⟨h1,a,sub⟩:=dZ (i:=0) rfl st;have hfl:(ps.flatMap an.C).length = 24:=by rw [dG jJ,hb]
 refine loadAt_v (r:=ps.flatMap an.C) (cs:=ps.flatMap an.C) agn_8_api_Pte ⟨_,_,_,sub _ _ a,fun i v hv=>by simpa using hv⟩ hfl rfl ?_;refine Lp.intro (fun (z:Sl × Int) h=>∃ n:Nat,z.2 = n/\n <= 8/\ay [vI z.1 (Table.byFrom s (ps.take n) 0),df (some (b,0)) ps] h) (fun (z:Sl × Int) _=>8 - z.2.toNat) ⟨0,rfl,zero_le _,fu (jh hb st)⟩ ?_;rintro ⟨z,i⟩ h ⟨n,rfl,hn,s1⟩;unfold oW;refine aX (fun k=>?_) (fun k=>?_)
 ·have hlt:n < 8:=by have:=of_decide_eq_true k; omega
  have hn':n < ps.length:=by omega
  have hw:i64.wrap ((n:Int) + 1) = ((n + 1:Nat):Int):=by rw [bp (by omega) (by omega)]; rfl
  have ht:ps.take (n + 1) = ps.take n++[ps[n]]:=by simp
  have hlen:((ps.take n).length:Int) = n:=by simp; omega
  refine index_v (enc:=an.C) (m:=3) arn_8_api_Pte age_8_api_Pte jJ (fun _=>rfl) hb (aB hn') ?_;refine aX (fun k2=>?_) (fun k2=>?_)
  ·have k2':ps[n].fBa ≠ 0/\ps[n].fEa = s:=by simpa using k2
   refine tk s1 (i:=0) rfl ?_ fun v h' s2=>?_
   ·have:=by_len s (ps.take n) 0; simp at this ⊢; omega
   ·rw [hw];refine ⟨⟨n + 1,rfl,hlt,?_⟩,by simp; omega⟩;rw [ht,by_append,if_pos k2',hlen,zero_add];exact s2
  ·have k2':¬ (ps[n].fBa ≠ 0/\ps[n].fEa = s):=by simpa using k2
   rw [hw];refine ⟨⟨n + 1,rfl,hlt,?_⟩,by simp; omega⟩;rw [ht,by_append,if_neg k2',append_nil];exact s1
 ·have:n = 8:=by have:=of_decide_eq_false k; omega
  subst this;rw [show ps.take 8 = ps from by rw [← hb]; exact take_length] at s1;exact s1
end
section
open Go
namespace Mb
def wF {σ α:Type} (A:σ->α->As):List σ->List α->List As
 | p::ps,x::xs=>A p x::wF A ps xs
 | _,_=>[]
section
variable {σ α:Type} {A:σ->α->As}
theorem objs_get:∀ {ps:List σ} {xs:List α} {i:Nat} {p:σ} {x:α},ps[i]? = some p->xs[i]? = some x->(wF A ps xs)[i]? = some (A p x)
 | [],_,_,_,_,h,_=>by simp at h
 | _::_,[],_,_,_,_,h=>by simp at h
 | p::ps,x::xs,0,_,_,h1,h2=>by simp at h1 h2; subst h1; subst h2; rfl
 | p::ps,x::xs,i + 1,_,_,h1,h2=>by simpa [wF] using objs_get (ps:=ps) (xs:=xs) (i:=i) (by simpa using h1) (by simpa using h2)
theorem objs_set:∀ {ps:List σ} {xs:List α} {i:Nat} {p:σ} {x:α},ps[i]? = some p->(wF A ps xs).set i (A p x) = wF A ps (xs.set i x)
 | [],_,_,_,_,h=>by simp at h
 | p::ps,[],i,_,_,_=>by simp [wF]
 | p::ps,y::xs,0,_,_,h=>by simp at h; subst h; rfl
 | p::ps,y::xs,i + 1,_,_,h=>by simp only [wF,List.set_cons_succ]; rw [objs_set (ps:=ps) (xs:=xs) (i:=i) (by simpa using h)]
theorem objs_set2:∀ {ps:List σ} {xs:List α} {i:Nat} {p:σ} {x:α},i < xs.length->(wF A ps xs).set i (A p x) = wF A (ps.set i p) (xs.set i x)
 | [],_,_,_,_,_=>by simp [wF]
 | p::ps,[],i,_,_,h=>by simp at h
 | p::ps,y::xs,0,_,_,_=>rfl
 | p::ps,y::xs,i + 1,_,_,h=>by simp only [wF,List.set_cons_succ]; rw [objs_set2 (ps:=ps) (xs:=xs) (i:=i) (by simpa using h)]
theorem objs_append (p:σ) (x:α):∀ {ps:List σ} {xs:List α},ps.length = xs.length->wF A (ps++[p]) (xs++[x]) = wF A ps xs++[A p x]
 | [],[],_=>rfl
 | [],_::_,h=>by simp at h
 | _::_,[],h=>by simp at h
 | a::ps,b::xs,h=>by simp only [cons_append,wF]; rw [objs_append p x (by simpa using h)]
theorem objs_len:∀ {ps:List σ} {xs:List α},ps.length = xs.length->(wF A ps xs).length = xs.length
 | [],[],_=>rfl
 | [],_::_,h=>by simp at h
 | _::_,[],h=>by simp at h
 | a::ps,b::xs,h=>by simp only [wF,List.length_cons]; rw [objs_len (by simpa using h)]
def all (A:σ->α->As) (ps:List σ) (xs:List α):As:=ay (wF A ps xs)
def but (A:σ->α->As) (ps:List σ) (xs:List α) (i:Nat):As:=ay ((wF A ps xs).eraseIdx i)
variable {l:List As} {h:Hp} {ps:List σ} {xs:List α}
theorem star_shut {m:List As} (s:ay (m++l) h):ay (ay m::l) h:=by
 obtain ⟨h1,h2,d,e,s1,s2⟩:=fC.1 s;exact ⟨h1,h2,d,e,s1,s2⟩
theorem jM {i:Nat} {p:σ} {x:α} (hp:ps[i]? = some p) (hx:xs[i]? = some x) (s:ay (all A ps xs::l) h):ay (A p x::but A ps xs i::l) h:=by
 obtain ⟨h1,h2,d,e,a,s'⟩:=s;have:=fN (objs_get (A:=A) hp hx) a;obtain ⟨h3,h4,d',e',a',s4⟩:=this;subst e';obtain ⟨d1,d2⟩:=Dj.of_un_left d;exact ⟨h3,un h4 h2,Dj.un_right d' d1,by rw [e,nq],a',h4,h2,d2,rfl,s4,s'⟩
theorem yf {i:Nat} {p:σ} {y:α} (hp:ps[i]? = some p) (hi:i < xs.length) (hl:ps.length = xs.length) (s:ay (A p y::but A ps xs i::l) h):ay (all A ps (xs.set i y)::l) h:=by
 obtain ⟨h1,h2,d,e,a,h3,h4,d',e',b,s'⟩:=s;subst e';obtain ⟨d1,d2⟩:=Dj.of_un_right d;refine ⟨un h1 h3,h4,Dj.un_left d2 d',by rw [e,nq],?_,s'⟩;have:=eB (A:=A p y) (l:=wF A ps xs) (i:=i) (by rw [objs_len hl]; exact hi) ⟨h1,h3,d1,rfl,a,b⟩;rw [objs_set hp] at this;exact this
theorem all_in2 {i:Nat} {p:σ} {y:α} (hi:i < xs.length) (hl:ps.length = xs.length) (s:ay (A p y::but A ps xs i::l) h):ay (all A (ps.set i p) (xs.set i y)::l) h:=by
 obtain ⟨h1,h2,d,e,a,h3,h4,d',e',b,s'⟩:=s;subst e';obtain ⟨d1,d2⟩:=Dj.of_un_right d;refine ⟨un h1 h3,h4,Dj.un_left d2 d',by rw [e,nq],?_,s'⟩;have:=eB (A:=A p y) (l:=wF A ps xs) (i:=i) (by rw [objs_len hl]; exact hi) ⟨h1,h3,d1,rfl,a,b⟩;rw [objs_set2 hi] at this;exact this
theorem jj {α:Type} {xs:List α} {i:Nat} {x:α} (hx:xs[i]? = some x):xs.set i x = xs:=by
 apply List.ext_getElem?;intro n;rw [List.getElem?_set];by_cases e:i = n
 ·subst e;obtain ⟨h1,h2⟩:=List.getElem?_eq_some_iff.1 hx;simp [h1,h2]
 ·simp [e]
theorem wW {i:Nat} {p:σ} {x:α} (hp:ps[i]? = some p) (hx:xs[i]? = some x) (hl:ps.length = xs.length) (s:ay (A p x::but A ps xs i::l) h):ay (all A ps xs::l) h:=by
 have:=yf hp (List.getElem?_eq_some_iff.1 hx).1 hl s
 rwa [jj hx] at this
theorem all_nil:ay l h->ay (all A [] []::l) h:=fun s=>star_cons (fun _=>trivial) s
theorem all_push {p:σ} {x:α} (hl:ps.length = xs.length) (s:ay (A p x::all A ps xs::l) h):ay (all A (ps++[p]) (xs++[x])::l) h:=by
 refine star_shut ?_;rw [objs_append p x hl];have s1:=kV (.swap _ _ _) s;have s2:=dq s1;exact kV (by simp) s2
end
theorem xf {A:As} {h:Hp} (a:A h):ay [A] h:=⟨h,emp,Dj.emp_right _,(un_emp _).symm,a,trivial⟩
section
variable {P:Program} {l:List As} {h:Hp} {τ:Type} {f:FuncId} {args:List Value} {enc:τ->Value} {K:τ->Hp->Prop} {i:Nat} {A:As}
theorem cc {φ:τ->Prop} {A':τ->As} (c:Sp P f args enc [A] (fun r=>pa_ (φ r) [A' r])) (hi:l[i]? = some A) (s:ay l h) (k:∀ r h',φ r->ay (l.set i (A' r)) h'->K r h'):cl P f args enc K h:=by
 obtain ⟨h1,h2,d,rfl,a,s'⟩:=fN hi s;refine (c h1 (xf a)).frame_mono d rfl fun v h' ⟨r,hv,q⟩ dj=>⟨r,hv,?_⟩
 obtain ⟨g1,q⟩:=q;refine k r _ g1 (eB (List.getElem?_eq_some_iff.1 hi).1 ?_);exact mB (l:=[A' r]++l.eraseIdx i) (by rw [append_nil]; exact fC.2 ⟨h',h2,dj,rfl,q,s'⟩)
theorem ui {B A':τ->As} (c:Sp P f args enc [A] (fun r=>ay [B r,A' r])) (hi:l[i]? = some A) (s:ay l h) (k:∀ r h',ay (B r::l.set i (A' r)) h'->K r h'):cl P f args enc K h:=by
 obtain ⟨h1,h2,d,rfl,a,s'⟩:=fN hi s;refine (c h1 (xf a)).frame_mono d rfl fun v h' ⟨r,hv,q⟩ dj=>⟨r,hv,k r _ ?_⟩
 have s1:ay (B r::A' r::l.eraseIdx i) (un h' h2):=(fC (l:=[B r,A' r])).2 ⟨h',h2,dj,rfl,q,s'⟩;obtain ⟨g1,g2,d2,e2,b,s2⟩:=s1;exact ⟨g1,g2,d2,e2,b,eB (List.getElem?_eq_some_iff.1 hi).1 s2⟩
theorem cl_p {φ:τ->Prop} {B A':τ->As} (c:Sp P f args enc [A] (fun r=>pa_ (φ r) [B r,A' r])) (hi:l[i]? = some A) (s:ay l h) (k:∀ r h',φ r->ay (B r::l.set i (A' r)) h'->K r h'):cl P f args enc K h:=by
 obtain ⟨h1,h2,d,rfl,a,s'⟩:=fN hi s;refine (c h1 (xf a)).frame_mono d rfl fun v h' ⟨r,hv,q⟩ dj=>⟨r,hv,?_⟩
 obtain ⟨g0,q⟩:=q;refine k r _ g0 ?_;have s1:ay (B r::A' r::l.eraseIdx i) (un h' h2):=(fC (l:=[B r,A' r])).2 ⟨h',h2,dj,rfl,q,s'⟩;obtain ⟨g1,g2,d2,e2,b,s2⟩:=s1;exact ⟨g1,g2,d2,e2,b,eB (List.getElem?_eq_some_iff.1 hi).1 s2⟩
theorem ut {φ:τ->Prop} (c:Sp P f args enc [] (fun r=>pa_ (φ r) [])) (s:ay l h) (k:∀ r h',φ r->ay l h'->K r h'):cl P f args enc K h :=
 cW [] c s rfl fun r h' s1=>by
  obtain ⟨f1,s2⟩:=bA.1 s1;exact k r h' f1 s2
theorem nl {B:τ->As} (c:Sp P f args enc [] (fun r=>ay [B r])) (s:ay l h) (k:∀ r h',ay (B r::l) h'->K r h'):cl P f args enc K h :=
 cW [] c s rfl fun r h' s1=>k r h' (dq s1)
end
end Mb
end
section
open Go Mb
def sh_caps_Tree_is (a0:Ptr) (a1:Int) (a2:Int) (K:kT Bool):hT:=br (decide (a1 >= 0)) ( nn a0 fun q12=>ld (q12.1,q12.2 + 0) cS fun x14=>K (((decide (a1 < (x14.len:Int))) && (decide (a2 >= 0))) && (decide (a2 < 8)))) ( K false)
theorem sim_caps_Tree_is (a0:Ptr) (a1:Int) (a2:Int) {K:kT Bool} {h:Hp} (H:sh_caps_Tree_is a0 a1 a2 K h):cl prog iN [(pv a0),(.int .i64 a1),(.int .i64 a2)] aD K h:=z_i func139 p p fun _=>O<|U p<|O<|M p<|J (iE p p)<|M p<|W p p (aA _) (fun g1=>wv<|ag p)<|W p p (aA _) (fun g2=>wv<|ag p)<|bS H (fun k4 H5=>bL H5 fun q12 e6 H7=>z_O (Z k4)<|z_p (aP<|aJ (aC p k4)<|au e6)<|z_O (Z k4)<|z_p (ae iB p)<|z_O (Z k4)<|aY H7 qJ p (fun _=>p) p fun x14 H8=>z_O (Z k4)<|z_p (dh p underlying195 p)<|z_O (Z k4)<|z_p (bZ (aC p k4) p)<|J (aI p k4 p)<|M p<|W p p (aA _) (fun g9=>wv<|ag p)<|W p p (aA _) (fun g10=>wv<|iE (aC p g10) p)<|J (bN p p)<|M p<|W p p (aA _) (fun g11=>wv<|ag p)<|W p p (aA _) (fun g12=>wv<|bZ (aC p g12) p)<|J (bN p p)<|U p<|ah<|F ⟨(((decide (a1 < (x14.len:Int))) && (decide (a2 >= 0))) && (decide (a2 < 8))),p,H8⟩) fun k4 H5=>Y (ax k4)<|Y (ax k4)<|Y (ax k4)<|Y (ax k4)<|Y (ax k4)<|J (ap p k4 p)<|M p<|Y p<|Y p<|J (ap p p p)<|M p<|Y p<|Y p<|J (ap p p p)<|U p<|ah<|F ⟨false,p,H5⟩
def jf (a0:Ptr) (a1:Int) (a2:Int) (K:kT (aE × Bool)) (s1:Bool):hT:=br s1 ( K ((⟨0,0,0,0⟩:aE),false)) ( nn a0 fun q32=>ld (q32.1,q32.2 + 0) cS fun x34=>ix x34 a1 fun q37=>gd (0 <= a2/\a2 < 8)<|ld (q37.1,q37.2 + Int.toNat a1 * 32 + Int.toNat a2 * 4) aE.C fun x39=>K (x39,true))
def sh_caps_Tree_At (a0:Ptr) (a1:Int) (a2:Int) (K:kT (aE × Bool)):hT:=br (!a0.isNone) ( cl prog iN [(pv a0),(.int .i64 a1),(.int .i64 a2)] aD fun r14=>br (!(!r14)) ( nn a0 fun q19=>ld (q19.1,q19.2 + 0) cS fun x21=>ix x21 a1 fun q24=>gd (0 <= a2/\a2 < 8)<|ld (q24.1,q24.2 + Int.toNat a1 * 32 + Int.toNat a2 * 4 + 1) (cI .i64) fun x27=>jf a0 a1 a2 K (x27 == 0)) ( jf a0 a1 a2 K true)) ( jf a0 a1 a2 K true)
theorem sim_caps_Tree_At (a0:Ptr) (a1:Int) (a2:Int) {K:kT (aE × Bool)} {h:Hp} (H:sh_caps_Tree_At a0 a1 a2 K h):cl prog eS [(pv a0),(.int .i64 a1),(.int .i64 a2)] cZ K h:=z_i func91 p p fun _=>O<|aa<|aT (l:=aE.C (⟨0,0,0,0⟩:aE)) iU p p fun b6=>U p<|ai<|dY (jf a0 a1 a2 K) (fun s1=>[(0,(pv a0)),(1,(.int .i64 a1)),(2,(.int .i64 a2)),(6,(.pointer (some ⟨b6,0,none⟩))),(29,(.bool s1))]) (fun s1=>[bx b6 51 (aE.C (⟨0,0,0,0⟩:aE))]) (am<|M p<|J (cy underlying134 p)<|M p<|W p p (aL _) (fun g14=>wv<|ag p)<|W p p (aL _) (fun g15=>wv<|ag p)<|W p p (aL _) (fun g16=>wv<|ag p)<|bS H (fun k18 H19=>z_O (Z<|cg k18)<|gz H19 en_139 (aZ (aC p k18)<|aZ (aC p k18)<|aZ (aC p k18) bX) p fun r14 _ H20=>z_O (Z<|cg k18)<|z_p (cw p)<|J (ap p (cg k18) p)<|M p<|W p p (aL _) (fun g21=>wv<|ag p)<|bS H20 (fun k23 H24=>bL H24 fun q19 e25 H26=>z_O (Z<|cg k23)<|z_p (aP<|aJ (aC p k23)<|au e25)<|z_O (Z<|cg k23)<|z_p (ae iB p)<|z_O (Z<|cg k23)<|aY H26 qJ p (fun _=>p) p fun x21 H27=>z_O (Z<|cg k23)<|z_p (ag p)<|z_O (Z<|cg k23)<|z_p (ag p)<|cm H27 fun q24 e28 h29 H30=>z_O (Z<|cg k23)<|z_p (aW pf (aJ p<|aM e28) p h29)<|jG H30 fun h31 H32=>z_O (Z<|cg k23)<|z_p (bH re p p h31)<|z_O (Z<|cg k23)<|z_p (ae ib p)<|z_O (Z<|cg k23)<|aY H32 aR p (fun _=>p) p fun x27 H33=>z_O (Z<|cg k23)<|z_p (bM p p)<|J (ap p (cg k23) p)<|ad<|ct (x27 == 0) H33 (.cons p<|.cons p<|.cons p<|.cons p<|.cons p<|.nil _)<|.cons_cons _ .slnil) fun k23 H24=>Y (be<|bG k23)<|Y (be<|bG k23)<|Y (be<|bG k23)<|Y (be<|bG k23)<|Y (be<|bG k23)<|Y (be<|bG k23)<|Y (be<|bG k23)<|Y (be<|bG k23)<|Y (be<|bG k23)<|Y (be<|bG k23)<|J (aI p (bG k23) p)<|ad<|ct true H24 (.cons p<|.cons p<|.cons p<|.cons p<|.cons p<|.nil _)<|.cons_cons _ .slnil) fun k18 H19=>Y (be<|bG k18)<|Y (be<|bG k18)<|J (aI p (bG k18) p)<|M p<|Y p<|Y p<|Y p<|Y p<|Y p<|Y p<|Y p<|Y p<|Y p<|Y p<|Y p<|J (aI p p p)<|ad<|ct true H19 (.cons p<|.cons p<|.cons p<|.cons p<|.cons p<|.nil _)<|.cons_cons _ .slnil) fun s1 _ H2=>av p H2 (fun k3 H4=>O<|J (bg (vs:=[]) p build_51)<|aa<|aV (k:=0) (vs:=aE.C (⟨0,0,0,0⟩:aE)) gV p p p p p p p<|U p<|ah<|bE (bW p (bJ (k:=0) p ag_51 p p)<|cj p) ⟨((⟨0,0,0,0⟩:aE),false),p,H4⟩) fun k3 H4=>ak<|O<|M p<|bL H4 fun q32 e5 H6=>J (aP<|aJ p<|au e5)<|J (ae iB p)<|aa<|aY H6 qJ p (fun _=>p) p fun x34 H7=>M p<|M p<|cm H7 fun q37 e8 h9 H10=>J (aW pf (aJ p<|aM e8) p h9)<|jG H10 fun h11 H12=>J (bH re p p h11)<|aa<|ga H12 ag_51 p (fun _=>p) p fun x39 H13=>aa<|aV (k:=0) (vs:=aE.C x39) gV p p p p p p p<|U p<|ah<|bE (bW p (bJ (k:=0) p ag_51 p p)<|cj p) ⟨(x39,true),p,H13⟩
def uT (a0:Ptr) (a1:Int) (a2:Int) (a3:Int) (K:kT Int):hT:=br a0.isNone ( K 10) ( cl prog iN [(pv a0),(.int .i64 a1),(.int .i64 a2)] aD fun r16=>br (((!r16) || (decide (a3 < 0))) || (decide (a3 >= 16))) ( K 2) ( nn a0 fun q28=>ld (q28.1,q28.2 + 0) cS fun x30=>ix x30 a1 fun q33=>gd (0 <= a2/\a2 < 8)<|ld (q33.1,q33.2 + Int.toNat a1 * 32 + Int.toNat a2 * 4 + 1) (cI .i64) fun x36=>br (x36 != 0) ( K 4) ( ld (q28.1,q28.2 + 0) cS fun x41=>ix x41 a1 fun q46=>st (q46.1,q46.2 + Int.toNat a1 * 32 + Int.toNat a2 * 4) (aE.C (⟨a3,3,(-1),0⟩:aE))<|K 0)))
theorem sim_caps_Tree_Root (a0:Ptr) (a1:Int) (a2:Int) (a3:Int) {K:kT Int} {h:Hp} (H:uT a0 a1 a2 a3 K h):cl prog jY [(pv a0),(.int .i64 a1),(.int .i64 a2),(.int .i64 a3)] bn K h:=z_i func99 p p fun _=>O<|U p<|ai<|aw<|O<|M p<|J (cy underlying134 p)<|U p<|av p H (fun k1 H2=>O<|U p<|ah<|F ⟨10,p,H2⟩) fun k1 H2=>O<|M p<|M p<|M p<|aa<|G H2 en_139 fun r16 _ H3=>J (cw p)<|M p<|W p p (aL _) (fun g4=>wv<|ag p)<|W p p (aL _) (fun g5=>wv<|bZ (aC p g5) p)<|J (dy p p)<|M p<|W p p (aL _) (fun g6=>wv<|ag p)<|W p p (aL _) (fun g7=>wv<|iE (aC p g7) p)<|J (dy p p)<|U p<|av p H3 (fun k8 H9=>O<|U p<|ah<|F ⟨2,p,H9⟩) fun k8 H9=>O<|M p<|bL H9 fun q28 e10 H11=>J (aP<|aJ p<|au e10)<|J (ae iB p)<|aa<|aY H11 qJ p (fun _=>p) p fun x30 H12=>M p<|M p<|cm H12 fun q33 e13 h14 H15=>J (aW pf (aJ p<|aM e13) p h14)<|jG H15 fun h16 H17=>J (bH re p p h16)<|J (ae ib p)<|aa<|aY H17 aR p (fun _=>p) p fun x36 H18=>J (nS p p)<|U p<|av p H18 (fun k19 H20=>O<|U p<|ah<|F ⟨4,p,H20⟩) fun k19 H20=>ak<|O<|M (aJ p<|au e10)<|J (aP p)<|J (ae iB p)<|aa<|aY H20 qJ p (fun _=>p) p fun x41 H21=>M p<|M p<|M p<|J (bg p<|build_51_0_1_2 a3 3 (-1))<|cm H21 fun q46 e22 h23 H24=>J (aW pf (aJ p<|aM e22) p h23)<|J (bH re p p h16)<|aa<|dx gV p p p p p H24 fun _ H25=>ad<|O<|U p<|ah<|F ⟨0,p,H25⟩
def sE (a0:Ptr) (a1:Int) (a2:Int) (a3:Int) (a4:Int) (a5:Int) (K:kT Int):hT:=br a0.isNone ( K 10) ( cl prog iN [(pv a0),(.int .i64 a1),(.int .i64 a2)] aD fun r19=>br (!(!r19)) ( cl prog iN [(pv a0),(.int .i64 a3),(.int .i64 a4)] aD fun r25=>br ((!r25) || (!(cK a5))) ( K 2) ( nn a0 fun q34=>ld (q34.1,q34.2 + 0) cS fun x36=>ix x36 a1 fun q39=>gd (0 <= a2/\a2 < 8)<|ld (q39.1,q39.2 + Int.toNat a1 * 32 + Int.toNat a2 * 4) aE.C fun x41=>br (x41.fBa == 0) ( K 3) ( ld (q34.1,q34.2 + 0) cS fun x50=>ix x50 a3 fun q53=>gd (0 <= a4/\a4 < 8)<|ld (q53.1,q53.2 + Int.toNat a3 * 32 + Int.toNat a4 * 4 + 1) (cI .i64) fun x56=>br (x56 != 0) ( K 4) ( br (!(bm a5 x41.fBa)) ( K 5) ( ld (q34.1,q34.2 + 0) cS fun x67=>ix x67 a3 fun q76=>st (q76.1,q76.2 + Int.toNat a3 * 32 + Int.toNat a4 * 4) (aE.C (⟨x41.fFa,a5,a1,a2⟩:aE))<|K 0))))) ( K 2))
theorem sim_caps_Tree_Derive (a0:Ptr) (a1:Int) (a2:Int) (a3:Int) (a4:Int) (a5:Int) {K:kT Int} {h:Hp} (H:sE a0 a1 a2 a3 a4 a5 K h):cl prog iO [(pv a0),(.int .i64 a1),(.int .i64 a2),(.int .i64 a3),(.int .i64 a4),(.int .i64 a5)] bn K h:=z_i func100 p p fun _=>O<|U p<|ai<|O<|M p<|J (cy underlying134 p)<|ad<|av p H (fun k1 H2=>O<|U p<|ah<|F ⟨10,p,H2⟩) fun k1 H2=>ak<|ai<|O<|M p<|M p<|M p<|aa<|G H2 en_139 fun r19 _ H3=>J (cw p)<|M p<|W p p (aL _) (fun g4=>wv<|ag p)<|W p p (aL _) (fun g5=>wv<|ag p)<|W p p (aL _) (fun g6=>wv<|ag p)<|bS H3 (fun k8 H9=>z_O (Z<|cg k8)<|gz H9 en_139 (aZ (aC p k8)<|aZ (aC p k8)<|aZ (aC p k8) bX) p fun r25 _ H10=>z_O (Z<|cg k8)<|z_p (cw p)<|J (ap p (cg k8) p)<|M p<|W p p (aL _) (fun g11=>wv<|ag p)<|dk (vs:=[(.int .i64 a5)]) p p p (aL _) (fun g12=>bu<|qV a5 _) en_112 (fun g12=>aZ (aC p g12) bX) p<|W p p (aL _) (fun g13=>wv<|cw<|aC p g13)<|J (dy p p)<|ad<|av p H10 (fun k14 H15=>O<|U p<|ah<|F ⟨2,p,H15⟩) fun k14 H15=>ak<|O<|M p<|bL H15 fun q34 e16 H17=>J (aP<|aJ p<|au e16)<|J (ae iB p)<|aa<|aY H17 qJ p (fun _=>p) p fun x36 H18=>M p<|M p<|cm H18 fun q39 e19 h20 H21=>J (aW pf (aJ p<|aM e19) p h20)<|jG H21 fun h22 H23=>J (bH re p p h22)<|aa<|ga H23 ag_51 p (fun _=>p) p fun x41 H24=>aa<|aT (l:=aE.C (⟨0,0,0,0⟩:aE)) iU p p fun b13=>aa<|aV (k:=0) (vs:=aE.C x41) gV p p p p p p p<|ad<|ai<|aw<|O<|J (ae ib p)<|bo (bc (k:=0) aR p p p) p<|J (bM p p)<|U p<|av p H24 (fun k25 H26=>O<|U p<|ah<|F ⟨3,p,H26⟩) fun k25 H26=>O<|M (aJ p<|au e16)<|J (aP p)<|J (ae iB p)<|aa<|aY H26 qJ p (fun _=>p) p fun x50 H27=>M p<|M p<|cm H27 fun q53 e28 h29 H30=>J (aW pf (aJ p<|aM e28) p h29)<|jG H30 fun h31 H32=>J (bH re p p h31)<|J (ae ib p)<|aa<|aY H32 aR p (fun _=>p) p fun x56 H33=>J (nS p p)<|U p<|av p H33 (fun k34 H35=>O<|U p<|ah<|F ⟨4,p,H35⟩) fun k34 H35=>O<|M p<|J (ae ib p)<|bo (bc (k:=0) aR p p p) p<|aa<|cu (vs:=[(.int .i64 a5),(.int .i64 x41.fBa)]) (bu<|du a5 x41.fBa _) sH p p<|J (cw p)<|U p<|av p H35 (fun k36 H37=>O<|U p<|ah<|F ⟨5,p,H37⟩) fun k36 H37=>ak<|ai<|bk (n:=15) [bx b13 51 (aE.C x41)] ch p (.cons_cons _ .slnil)<|V 0 p (ag<|aJ p<|au e16)<|V 1 p (aP p)<|V 2 p (ae iB p)<|V 4 p (ag p)<|V 5 p (ag p)<|V 6 p (ae ub p)<|z_E 7 p (cA (k:=0) aR p p p)<|V 8 p (ag p)<|V 9 p (ag p)<|V 10 p (ag p)<|V 11 p (bg p<|build_51_0_1_2_3 x41.fFa a5 a1 a2)<|bw (i:=3) (fun _ _ _ _ hh=>hh) H37 p (by kernel_rfl) qJ p (fun _=>p) p fun x67 H38=>dl H38 fun q76 e39 h40 H41=>V 12 p (aW pf (aJ p<|aM e39) p h40)<|V 13 p (bH re p p h31)<|R 14 p<|dx gV p p p p p H41 fun _ H42=>⟨.cons_cons _ .slnil,aG (by kernel_rfl)<|O<|U p<|ah<|F ⟨0,p,H42⟩⟩) fun k8 H9=>Y (be<|bG k8)<|Y (be<|bG k8)<|J (aI p (bG k8) p)<|M p<|Y p<|Y p<|Y p<|J (aI p p p)<|ad<|gc p p<|O<|U p<|ah<|F ⟨2,p,H9⟩
def iC (s6:Sl × Int) (Rec18:kT (Sl × Int)) (s17:Sl × Int) (s23:Bool):hT:=br s23 ( hpv prog (Instr.buildSlice iv 1 #[(0,(.agg (aO.C (⟨s6.2,s17.2⟩:aO)).toArray))]) dc fun (v45:Sl)=>hpv prog (Builtin.append_ #[iv,iv] iv #[(sv s17.1),(sv v45)]) dc fun (v46:Sl)=>Rec18 (v46,(i64.wrap (s17.2 + 1)))) ( Rec18 (s17.1,(i64.wrap (s17.2 + 1))))
def qW (a1:Value) (Rec7:kT (Sl × Int)) (s6:Sl × Int) (v26:(List Value)) (Rec18:kT (Sl × Int)) (s17:Sl × Int):hT:=br (decide (s17.2 < 8)) ( hpv prog (Instr.index lN (.agg v26.toArray) (.int .i64 s17.2)) R_api_Cap fun (v30:aE)=>br (v30.fBa != 0) ( clv prog a1 [(.agg (aO.C (⟨s6.2,s17.2⟩:aO)).toArray),(.agg (aE.C v30).toArray)] aD fun r41=>iC s6 Rec18 s17 r41) ( iC s6 Rec18 s17 false)) ( Rec7 (s17.1,(i64.wrap (s6.2 + 1))))
def qX (a1:Value) (K:kT Sl) (q13:Nat × Nat) (x15:Sl) (Rec7:kT (Sl × Int)) (s6:Sl × Int):hT:=br (decide (s6.2 < (x15.len:Int))) ( ld (q13.1,q13.2 + 0) cS fun x23=>ix x23 s6.2 fun q25=>hpv prog (Instr.loadAt lN (.pointer (some ⟨q25.1,q25.2 + Int.toNat s6.2 * 32,none⟩))) encL fun (v26:(List Value))=>Lp (qW a1 Rec7 s6 v26) (s6.1,0)) ( K s6.1)
def wz (a0:Ptr) (a1:Value) (K:kT Sl):hT:=br a0.isNone ( K (⟨none,0,0,none⟩:Sl)) ( nn a0 fun q13=>ld (q13.1,q13.2 + 0) cS fun x15=>Lp (qX a1 K q13 x15) ((⟨none,0,0,none⟩:Sl),0))
theorem sim_caps_Tree_all (a0:Ptr) (a1:Value) {K:kT Sl} {h:Hp} (H:wz a0 a1 K h):cl prog kO [(pv a0),a1] dc K h:=z_i func145 p p fun _=>O<|U p<|ai<|O<|M p<|J (cy underlying134 p)<|ad<|av p H (fun k1 H2=>O<|U p<|ah<|F ⟨(⟨none,0,0,none⟩:Sl),p,H2⟩) fun k1 H2=>ak<|O<|U p<|ai<|O<|M p<|bL H2 fun q13 e3 H4=>J (aP<|aJ p<|au e3)<|J (ae iB p)<|aa<|aY H4 qJ p (fun _=>p) p fun x15 H5=>J (dh p underlying195 p)<|M p<|ad<|aw<|bv (step:=qX a1 K q13 x15) (fun s6=>[(0,(pv a0)),(1,a1),(5,(sv s6.1)),(16,(.int .i64 (x15.len:Int))),(17,(.int .i64 s6.2))]) (fun s6=>[]) H5 (.cons p<|.cons p<|.cons p<|.cons p<|.cons p<|.nil _) .slnil fun Rec7 s6 _ H8=>O<|J (bZ p p)<|ad<|ai<|av p H8 (fun k9 H10=>ak<|ai<|aw<|O<|M p<|U p<|O<|M (aJ p<|au e3)<|J (aP p)<|J (ae iB p)<|aa<|aY H10 qJ p (fun _=>p) p fun x23 H11=>M p<|cm H11 fun q25 e12 h13 H14=>J (aW pf (aJ p<|aM e12) p h13)<|aa<|aF H14 (x_load p) p fun v26 _ H16=>M p<|ad<|aw<|bv (step:=qW a1 Rec7 s6 v26) (fun s17=>[(0,(pv a0)),(1,a1),(5,(sv s17.1)),(6,(.int .i64 s6.2)),(16,(.int .i64 (x15.len:Int))),(17,(.int .i64 s6.2)),(26,(.agg v26.toArray)),(27,(.int .i64 s17.2))]) (fun s17=>[]) H16 (.cons p<|.cons p<|.cons p<|.cons p<|.cons p<|.cons p<|.cons p<|.cons p<|.nil _) .slnil fun Rec18 s17 _ H19=>O<|J (bZ p p)<|ad<|ai<|av p H19 (fun k20 H21=>ak<|ai<|aw<|O<|M p<|aa<|aF H21 (x_index p p) p fun v30 _ H22=>aa<|aT (l:=aE.C (⟨0,0,0,0⟩:aE)) iU p p fun b8=>J (ar p)<|aa<|aV (k:=0) (vs:=aE.C v30) gV p p p p p p p<|ad<|O<|M p<|M p<|J (bg p<|vW s6.2 s17.2)<|aa<|aT (l:=aO.C (⟨0,0⟩:aO)) zero_192 p p fun b9=>aa<|aV (k:=0) (vs:=aO.C (⟨s6.2,s17.2⟩:aO)) inf_192 p p p p p p p<|ad<|dY (iC s6 Rec18 s17) (fun s23=>[(0,(pv a0)),(1,a1),(5,(sv s17.1)),(6,(.int .i64 s6.2)),(9,(.pointer (some ⟨b9,0,none⟩))),(16,(.int .i64 (x15.len:Int))),(17,(.int .i64 s6.2)),(26,(.agg v26.toArray)),(27,(.int .i64 s17.2)),(42,(.bool s23))]) (fun s23=>[bx b9 192 (aO.C (⟨s6.2,s17.2⟩:aO))]) (am<|J (ae ib p)<|bo (bc (k:=1) aR p p p) p<|J (nS p p)<|M p<|W p p (aA _) (fun g29=>wv<|ag p)<|W p p (aA _) (fun g30=>cv<|bK (k:=0) ag_192 p p p p)<|W p p (aA _) (fun g31=>cv<|bK (k:=1) ag_51 p p p p)<|bS H22 (fun k33 H34=>z_O (Z k33)<|to_clv H34 (aC p k33) (aZ (aC p k33)<|aZ (aC p k33) bX) p fun r41 _ H35=>J (aI p k33 p)<|ad<|ct r41 H35 (.cons p<|.cons p<|.cons p<|.cons p<|.cons p<|.cons p<|.cons p<|.cons p<|.cons p<|.cons p<|.nil _)<|.cons_cons _<|.cons _ .slnil) fun k33 H34=>Y (ax k33)<|J (ap p k33 p)<|ad<|ct false H34 (.cons p<|.cons p<|.cons p<|.cons p<|.cons p<|.cons p<|.cons p<|.cons p<|.cons p<|.cons p<|.nil _)<|.cons_cons _<|.cons _ .slnil) fun s23 _ H24=>av p H24 (fun k25 H26=>am<|M p<|bo (bK (k:=0) ag_192 p p p p) p<|aa<|aF H26 (bh (vs:=[(.agg (aO.C (⟨s6.2,s17.2⟩:aO)).toArray)]) p) p fun v45 _ H27=>aa<|aF H27 (bz p p) p fun v46 _ H28=>U p<|am<|J (bb p p)<|M p<|ad<|bU (v46,(i64.wrap (s17.2 + 1))) H28 (.cons p<|.cons p<|.cons p<|.cons p<|.cons p<|.cons p<|.cons p<|.cons p<|.nil _)<|.cons _ .slnil) fun k25 H26=>ak<|am<|J (bb p p)<|M p<|ad<|bU (s17.1,(i64.wrap (s17.2 + 1))) H26 (.cons p<|.cons p<|.cons p<|.cons p<|.cons p<|.cons p<|.cons p<|.cons p<|.nil _)<|.cons _ .slnil) fun k20 H21=>bf<|am<|J (bb p p)<|M p<|ad<|bU (s17.1,(i64.wrap (s6.2 + 1))) H21 (.cons p<|.cons p<|.cons p<|.cons p<|.cons p<|.nil _) .slnil) fun k9 H10=>bf<|O<|M p<|U p<|ah<|F ⟨s6.1,p,H10⟩
def uS (a0:Ptr) (a1:Int) (a2:Int) (K:kT Int):hT:=br a0.isNone ( K 10) ( cl prog iN [(pv a0),(.int .i64 a1),(.int .i64 a2)] aD fun r14=>br (!r14) ( K 2) ( nn a0 fun q18=>ld (q18.1,q18.2 + 0) cS fun x20=>ix x20 a1 fun q23=>gd (0 <= a2/\a2 < 8)<|ld (q23.1,q23.2 + Int.toNat a1 * 32 + Int.toNat a2 * 4 + 1) (cI .i64) fun x26=>br (x26 == 0) ( K 3) ( K 0)))
theorem sim_caps_Tree_look (a0:Ptr) (a1:Int) (a2:Int) {K:kT Int} {h:Hp} (H:uS a0 a1 a2 K h):cl prog mQ [(pv a0),(.int .i64 a1),(.int .i64 a2)] bn K h:=z_i func161 p p fun _=>O<|U p<|ai<|aw<|O<|M p<|J (cy underlying134 p)<|U p<|av p H (fun k1 H2=>O<|U p<|ah<|F ⟨10,p,H2⟩) fun k1 H2=>O<|M p<|M p<|M p<|aa<|G H2 en_139 fun r14 _ H3=>J (cw p)<|U p<|av p H3 (fun k4 H5=>O<|U p<|ah<|F ⟨2,p,H5⟩) fun k4 H5=>O<|M p<|bL H5 fun q18 e6 H7=>J (aP<|aJ p<|au e6)<|J (ae iB p)<|aa<|aY H7 qJ p (fun _=>p) p fun x20 H8=>M p<|M p<|cm H8 fun q23 e9 h10 H11=>J (aW pf (aJ p<|aM e9) p h10)<|jG H11 fun h12 H13=>J (bH re p p h12)<|J (ae ib p)<|aa<|aY H13 aR p (fun _=>p) p fun x26 H14=>J (bM p p)<|U p<|av p H14 (fun k15 H16=>O<|U p<|ah<|F ⟨3,p,H16⟩) fun k15 H16=>ak<|O<|U p<|ah<|F ⟨0,p,H16⟩
def mw (a0:Ptr) (a1:Sl) (K:kT Sl) (Rec2:kT Int) (s1:Int):hT:=br (decide (s1 < (a1.len:Int))) ( ix a1 s1 fun q11=>ld (q11.1,q11.2 + Int.toNat s1 * 2) aO.C fun x12=>nn a0 fun q14=>ld (q14.1,q14.2 + 0) cS fun x16=>ix x16 x12.fCa fun q22=>gd (0 <= x12.fEa/\x12.fEa < 8)<|st (q22.1,q22.2 + Int.toNat x12.fCa * 32 + Int.toNat x12.fEa * 4) (aE.C (⟨0,0,0,0⟩:aE))<|Rec2 (i64.wrap (s1 + 1))) ( K a1)
def rA (a0:Ptr) (a1:Sl) (K:kT Sl):hT:=Lp (mw a0 a1 K) 0
theorem sim_caps_Tree_empties (a0:Ptr) (a1:Sl) {K:kT Sl} {h:Hp} (H:rA a0 a1 K h):cl prog hY [(pv a0),(sv a1)] dc K h:=z_i func162 p p fun _=>O<|U p<|ai<|O<|M p<|J (dh p underlying161 p)<|M p<|ad<|aw<|bv (step:=mw a0 a1 K) (fun s1=>[(0,(pv a0)),(1,(sv a1)),(7,(sv a1)),(8,(.int .i64 (a1.len:Int))),(9,(.int .i64 s1))]) (fun s1=>[]) H (.cons p<|.cons p<|.cons p<|.cons p<|.cons p<|.nil _) .slnil fun Rec2 s1 _ H3=>O<|J (bZ p p)<|ad<|ai<|av p H3 (fun k4 H5=>ak<|ai<|aw<|O<|cm H5 fun q11 e6 h7 H8=>J (aW slc_161 (aJ p<|aM e6) p h7)<|aa<|ga H8 ag_192 p (fun _=>p) p fun x12 H9=>aa<|aT (l:=aO.C (⟨0,0⟩:aO)) zero_192 p p fun b6=>aa<|aV (k:=0) (vs:=aO.C x12) inf_192 p p p p p p p<|ad<|bk (n:=12) [bx b6 192 (aO.C x12)] ch p (.cons_cons _ .slnil)<|V 0 p (ag p)<|V 4 p (ae fld_192_0 p)<|z_E 5 p (cA (k:=0) aR p p p)<|V 6 p (ae fld_192_1 p)<|z_E 7 p (cA (k:=0) aR p p p)<|V 8 p (bg (vs:=[]) p build_51)<|ip H9 fun q14 e10 H11=>V 1 p (aP<|aJ p<|au e10)<|V 2 p (ae iB p)<|bw (i:=3) (fun _ _ _ _ hh=>hh) H11 p (by kernel_rfl) qJ p (fun _=>p) p fun x16 H12=>dl H12 fun q22 e13 h14 H15=>V 9 p (aW pf (aJ p<|aM e13) p h14)<|eva_gd H15 fun h16 H17=>V 10 p (bH re p p h16)<|R 11 p<|dx gV p p p p p H17 fun _ H18=>⟨.cons_cons _ .slnil,aG (by kernel_rfl)<|am<|J (bb p p)<|M p<|ad<|bU (i64.wrap (s1 + 1)) H18 (.cons p<|.cons p<|.cons p<|.cons p<|.cons p<|.nil _)<|.cons _ .slnil⟩) fun k4 H5=>bf<|O<|M p<|U p<|ah<|F ⟨a1,p,H5⟩
def oo (a0:Ptr) (a2:aO) (K:kT Bool) (Rec2:kT aE) (s1:aE):hT:=br ((s1.fBa != 0) && (decide (s1.fCa >= 0))) ( br ((s1.fCa == a2.fCa) && (s1.fEa == a2.fEa)) ( K true) ( nn a0 fun q28=>ld (q28.1,q28.2 + 0) cS fun x30=>ix x30 s1.fCa fun q35=>gd (0 <= s1.fEa/\s1.fEa < 8)<|ld (q35.1,q35.2 + Int.toNat s1.fCa * 32 + Int.toNat s1.fEa * 4) aE.C fun x37=>Rec2 x37)) ( K false)
def tH (a0:Ptr) (a1:aE) (a2:aO) (K:kT Bool):hT:=Lp (oo a0 a2 K) a1
theorem sim_caps_Tree_under (a0:Ptr) (a1:aE) (a2:aO) {K:kT Bool} {h:Hp} (H:tH a0 a1 a2 K h):cl prog lJ [(pv a0),(.agg (aE.C a1).toArray),(.agg (aO.C a2).toArray)] aD K h:=z_i func147 p p fun _=>O<|aa<|cz (l:=aE.C a1) p p p fun b4=>aa<|cz (l:=aO.C a2) p p p fun b5=>U p<|ai<|aw<|bv (step:=oo a0 a2 K) (fun s1=>[(0,(pv a0)),(4,(.pointer (some ⟨b4,0,none⟩))),(5,(.pointer (some ⟨b5,0,none⟩)))]) (fun s1=>[bx b5 192 (aO.C a2),bx b4 51 (aE.C s1)]) H (.cons p<|.cons p<|.cons p<|.nil _) (.cons_cons _<|.cons_cons _ .slnil) fun Rec2 s1 _ H3=>ai<|O<|J (ae ib p)<|bo (bc (k:=1) aR p p p) p<|J (nS p p)<|M p<|W p p (aA _) (fun g4=>wv<|ae rF p)<|W p p (aA _) (fun g5=>cv<|bc (k:=1) aR (aC p g5) p p)<|W p p (aA _) (fun g6=>wv<|iE (aC p g6) p)<|J (bN p p)<|ad<|av p H3 (fun k7 H8=>ak<|aw<|ai<|O<|J (ae rF p)<|bo (bc (k:=1) aR p p p) p<|J (ae fld_192_0 p)<|bo (bc (k:=0) aR p p p) p<|J (bM p p)<|M p<|W p p (aA _) (fun g9=>wv<|ae fld_51_3 p)<|W p p (aA _) (fun g10=>cv<|bc (k:=1) aR (aC p g10) p p)<|W p p (aA _) (fun g11=>wv<|ae fld_192_1 p)<|W p p (aA _) (fun g12=>cv<|bc (k:=0) aR (aC p g12) p p)<|W p p (aA _) (fun g13=>wv<|bM (aC p g13)<|aC p g13)<|J (bN p p)<|ad<|av p H8 (fun k14 H15=>O<|U p<|ah<|F ⟨true,p,H15⟩) fun k14 H15=>ak<|bk (n:=12) [] ch p (.cons _<|.cons _ .slnil)<|V 0 p (ag p)<|V 4 p (ae rF p)<|V 6 p (ae fld_51_3 p)<|ip H15 fun q28 e16 H17=>V 1 p (aP<|aJ p<|au e16)<|V 2 p (ae iB p)<|bw (i:=3) (fun _ _ _ _ hh=>hh) H17 p (by kernel_rfl) qJ p (fun _=>p) p fun x30 H18=>eva_load (i:=5) (fun _ _ _ _ hh=>hh) p (by kernel_rfl) p (bc (k:=1) aR p p p)<|dl H18 fun q35 e19 h20 H21=>V 8 p (aW pf (aJ p<|aM e19) p h20)<|eva_load (i:=7) (fun _ _ _ _ hh=>hh) p (by kernel_rfl) p (bc (k:=1) aR p p p)<|eva_gd H21 fun h22 H23=>V 9 p (bH re p p h22)<|pT (i:=10) (fun _ _ _ _ hh=>hh) H23 p (by kernel_rfl) ag_51 p (fun _=>p) p fun x37 H24=>R 11 p<|aV (k:=1) (vs:=aE.C x37) gV p p p p p p p ⟨.cons _<|.cons _ .slnil,aG (by kernel_rfl)<|bU x37 H24 (.cons p<|.cons p<|.cons p<|.nil _)<|.cons_cons _<|.cons_cons _ .slnil⟩) fun k7 H8=>bf<|O<|U p<|ah<|F ⟨false,p,H8⟩
def rB (a0:aO) (a1:aE) (c0:Nat) (c1:Nat) (K:kT Bool):hT:=ld (c0,0) aO.C fun x8=>br (!(aO.eqb a0 x8)) ( ld (c1,0) cP fun x11=>ld (c0,0) aO.C fun x13=>cl prog lJ [(pv x11),(.agg (aE.C a1).toArray),(.agg (aO.C x13).toArray)] aD fun r14=>K r14) ( K true)
theorem sim_caps_Tree_Drop_c1 (a0:aO) (a1:aE) (c0:Nat) (c1:Nat) {K:kT Bool} {h:Hp} (H:rB a0 a1 c0 c1 K h):cl prog hZ [(.agg (aO.C a0).toArray),(.agg (aE.C a1).toArray),(.pointer (some ⟨c0,0,none⟩)),(.pointer (some ⟨c1,0,none⟩))] aD K h:=z_i func163 p p fun _=>O<|aa<|cz (l:=aO.C a0) p p p fun b4=>aa<|cz (l:=aE.C a1) p p p fun b5=>U p<|O<|bo (bK (k:=1) ag_192 p p p p) p<|aa<|ga H ag_192 p (fun _=>p) p fun x8 H1=>J (v_eqA eqg_192 (eqr_192 9998 _ _) p p)<|M p<|bS H1 (fun k3 H4=>z_O (Z<|cg k3)<|aY H4 iI p (fun _=>p) p fun x11 H5=>z_O (Z<|cg k3)<|tM (cv<|bK (k:=0) ag_51 p p p p) p<|z_O (Z<|cg k3)<|ga H5 ag_192 p (fun _=>p) p fun x13 H6=>z_O (Z<|cg k3)<|G H6 en_147 fun r14 _ H7=>J (ap p (cg k3) p)<|U p<|ah<|F ⟨r14,p,H7⟩) fun k3 H4=>Y (be<|bG k3)<|Y (be<|bG k3)<|Y (be<|bG k3)<|Y (be<|bG k3)<|J (aI p (bG k3) p)<|U p<|ah<|F ⟨true,p,H4⟩
def uU (a0:Ptr) (a1:Int) (a2:Int) (K:kT (Sl × Int)):hT:=nw sL [pv a0] fun b3=>ld (b3,0) cP fun x10=>cl prog mQ [(pv x10),(.int .i64 a1),(.int .i64 a2)] bn fun r13=>br (r13 != 0) ( K ((⟨none,0,0,none⟩:Sl),r13)) ( nw sK (aO.C (⟨0,0⟩:aO)) fun b9=>st (b9,0) (aO.C (⟨a1,a2⟩:aO))<|ld (b3,0) cP fun x21=>mV ( ld (b3,0) cP fun x20=>cl prog kO [(pv x21),(.func (.func hZ) #[] #[(.pointer (some ⟨b9,0,none⟩)),(.pointer (some ⟨b3,0,none⟩))])] dc fun r23=>cl prog hY [(pv x20),(sv r23)] dc fun r24=>K (r24,0)) ( cl prog kO [(pv x21),(.func (.func hZ) #[] #[(.pointer (some ⟨b9,0,none⟩)),(.pointer (some ⟨b3,0,none⟩))])] dc fun r23=>ld (b3,0) cP fun x20=>cl prog hY [(pv x20),(sv r23)] dc fun r24=>K (r24,0)))
theorem sim_caps_Tree_Drop (a0:Ptr) (a1:Int) (a2:Int) {K:kT (Sl × Int)} {h:Hp} (H:uU a0 a1 a2 K h):cl prog mR [(pv a0),(.int .i64 a1),(.int .i64 a2)] dO K h:=z_i func134 p p fun _=>O<|aa<|iF p p p H fun b3 _ H1=>J (ar p)<|U p<|ai<|O<|aa<|aY H1 iI p (fun _=>p) p fun x10 H2=>M p<|M p<|aa<|G H2 en_161 fun r13 _ H3=>U p<|O<|M p<|J (nS p p)<|ad<|av p H3 (fun k4 H5=>O<|M p<|J (ar p)<|U p<|ah<|bE (bW p (cj p)<|cj p) ⟨((⟨none,0,0,none⟩:Sl),r13),p,H5⟩) fun k4 H5=>ak<|O<|M p<|M p<|J (bg p<|vW a1 a2)<|aa<|to_alloc zero_192 p p H5 fun b9 _ H6=>aa<|dx inf_192 p p p p p H6 fun _ H7=>ad<|ai<|bk (n:=7) [] ch p .slnil<|V 2 p (v_func p p)<|bw (i:=1) (fun _ _ _ _ hh=>hh) H7 p (by kernel_rfl) iI p (fun _=>p) p fun x21 H8=>dm H8 fun H9_1 H9_2=>fJ (i:=0) (j:=3) (by kernel_rfl) (bF p p<|aY H9_1 iI p (fun _=>p) p fun x20 H10=>⟨.slnil,R 3 p<|G H10 en_145 fun r23 _ H11=>⟨.slnil,R 4 p<|G H11 en_162 fun r24 _ H12=>⟨.slnil,V 5 p (ar p)<|V 6 p (ar p)<|aG (by kernel_rfl)<|ah<|bE (bW p (cj p)<|cj p) ⟨(r24,0),p,H12⟩⟩⟩⟩)<|bF p p<|G H9_2 en_145 fun r23 _ H10=>⟨.slnil,bw (i:=0) (fun _ _ _ _ hh=>hh) H10 p (by kernel_rfl) iI p (fun _=>p) p fun x20 H11=>R 4 p<|G H11 en_162 fun r24 _ H12=>⟨.slnil,V 5 p (ar p)<|V 6 p (ar p)<|aG (by kernel_rfl)<|ah<|bE (bW p (cj p)<|cj p) ⟨(r24,0),p,H12⟩⟩⟩
def qt (a0:aO) (a1:aE) (c0:Nat) (c1:Nat) (c2:Nat) (K:kT Bool):hT:=ld (c0,0) cP fun x8=>ld (c1,0) (cI .i64) fun x10=>ld (c2,0) (cI .i64) fun x11=>cl prog lJ [(pv x8),(.agg (aE.C a1).toArray),(.agg (aO.C (⟨x10,x11⟩:aO)).toArray)] aD fun r13=>K r13
theorem xC (a0:aO) (a1:aE) (c0:Nat) (c1:Nat) (c2:Nat) {K:kT Bool} {h:Hp} (H:qt a0 a1 c0 c1 c2 K h):cl prog mi [(.agg (aO.C a0).toArray),(.agg (aE.C a1).toArray),(.pointer (some ⟨c0,0,none⟩)),(.pointer (some ⟨c1,0,none⟩)),(.pointer (some ⟨c2,0,none⟩))] aD K h:=z_i func146 p p fun _=>O<|aa<|cz (l:=aO.C a0) p p p fun b5=>aa<|cz (l:=aE.C a1) p p p fun b6=>U p<|O<|aa<|aY H iI p (fun _=>p) p fun x8 H1=>bo (bK (k:=0) ag_51 p p p p) p<|aa<|aY H1 aR p (fun _=>p) p fun x10 H2=>aa<|aY H2 aR p (fun _=>p) p fun x11 H3=>J (bg p<|vW x10 x11)<|aa<|G H3 en_147 fun r13 _ H4=>U p<|ah<|F ⟨r13,p,H4⟩
def tI (a0:Ptr) (a1:Int) (a2:Int) (K:kT Sl):hT:=nw sL [pv a0] fun b3=>nw lE [.int .i64 a1] fun b4=>nw lE [.int .i64 a2] fun b5=>ld (b3,0) cP fun x7=>cl prog kO [(pv x7),(.func (.func mi) #[] #[(.pointer (some ⟨b3,0,none⟩)),(.pointer (some ⟨b4,0,none⟩)),(.pointer (some ⟨b5,0,none⟩))])] dc fun r9=>K r9
theorem sim_caps_Tree_Below (a0:Ptr) (a1:Int) (a2:Int) {K:kT Sl} {h:Hp} (H:tI a0 a1 a2 K h):cl prog lK [(pv a0),(.int .i64 a1),(.int .i64 a2)] dc K h:=z_i func104 p p fun _=>O<|aa<|iF p p p H fun b3 _ H1=>aa<|iF p p p H1 fun b4 _ H2=>aa<|iF p p p H2 fun b5 _ H3=>U p<|O<|aa<|aY H3 iI p (fun _=>p) p fun x7 H4=>J (v_func p p)<|aa<|G H4 en_145 fun r9 _ H5=>U p<|ah<|F ⟨r9,p,H5⟩
def sD (a0:Ptr) (a1:Int) (a2:Int) (K:kT (Sl × Int)):hT:=cl prog mQ [(pv a0),(.int .i64 a1),(.int .i64 a2)] bn fun r12=>br (r12 != 0) ( K ((⟨none,0,0,none⟩:Sl),r12)) ( cl prog lK [(pv a0),(.int .i64 a1),(.int .i64 a2)] dc fun r20=>cl prog hY [(pv a0),(sv r20)] dc fun r21=>K (r21,0))
theorem sim_caps_Tree_Revoke (a0:Ptr) (a1:Int) (a2:Int) {K:kT (Sl × Int)} {h:Hp} (H:sD a0 a1 a2 K h):cl prog od [(pv a0),(.int .i64 a1),(.int .i64 a2)] dO K h:=z_i func135 p p fun _=>O<|J (ar p)<|U p<|ai<|O<|M p<|M p<|M p<|aa<|G H en_161 fun r12 _ H1=>U p<|O<|M p<|J (nS p p)<|ad<|av p H1 (fun k2 H3=>O<|M p<|J (ar p)<|U p<|ah<|bE (bW p (cj p)<|cj p) ⟨((⟨none,0,0,none⟩:Sl),r12),p,H3⟩) fun k2 H3=>ak<|O<|M p<|M p<|M p<|M p<|aa<|G H3 en_104 fun r20 _ H4=>aa<|G H4 en_162 fun r21 _ H5=>J (ar p)<|U p<|ah<|bE (bW p (cj p)<|cj p) ⟨(r21,0),p,H5⟩
def sh_caps_New (a0:Int) (K:kT Ptr):hT:=br ((decide (a0 < 1)) || (decide (a0 > 4))) ( K none) ( hpv prog (Instr.makeSlice t_S_8_api_Cap (.int .i64 a0) (.int .i64 a0)) R_S_8_api_Cap fun (v10:Sl)=>nw ox (oT.C (⟨v10⟩:oT)) fun b12=>K (some (b12,0)))
theorem sim_caps_New (a0:Int) {K:kT Ptr} {h:Hp} (H:sh_caps_New a0 K h):cl prog xO [(.int .i64 a0)] te K h:=z_i func94 p p fun _=>O<|U p<|ai<|O<|M p<|J (bZ p p)<|M p<|W p p (aL _) (fun g1=>wv<|ag p)<|W p p (aL _) (fun g2=>wv<|hG (aC p g2) p)<|J (dy p p)<|ad<|av p H (fun k3 H4=>O<|U p<|ah<|F ⟨none,p,H4⟩) fun k3 H4=>ak<|O<|M p<|aa<|aF H4 (km p p) p fun v10 _ H5=>J (bg p<|build_197_0 v10)<|aa<|iF p p p H5 fun b12 _ H6=>U p<|ah<|F ⟨some (b12,0),p,H6⟩
end
section
open Go Mb
namespace Mb
def SpV {τ:Type} (P:Program) (c:Value) (args:List Value) (enc:τ->Value) (pre:List As) (post:τ->As):Prop :=
 ∃ f fi ca,c = .func (.func f) fi ca/\aN P f/\∀ h,ay pre h->Ct P f ((fi++args.toArray)++ca) h fun v h'=>∃ r,v = enc r/\post r h'
theorem vZ {m:List As} {B:As} {h:Hp} (s:ay (m++[B]) h):ay (B::m) h:=kV (List.perm_append_singleton _ _) s
theorem star_rot' {m:List As} {B:As} {h:Hp} (s:ay (B::m) h):ay (m++[B]) h:=kV (List.perm_append_singleton _ _).symm s
theorem clv_t {τ:Type} {P:Program} {c:Value} {args:List Value} {enc:τ->Value} {pre:List As} {B:As} {post:τ->As} {K:τ->Hp->Prop} {h:Hp} (H:SpV P c args enc pre post) (s:ay (B::pre) h)
  (k:∀ r h',ay [post r,B] h'->K r h'):clv P c args enc K h:=by
 obtain ⟨f,fi,ca,rfl,he,H⟩:=H;obtain ⟨h1,h2,d,rfl,s1,s2⟩:=fC.1 (star_rot' s);exact ⟨f,fi,ca,rfl,he,(H h1 s1).frame_mono d rfl fun v h' ⟨r,hv,q⟩ dj=>⟨r,hv,k r _ ⟨h',h2,dj,rfl,q,s2⟩⟩⟩
end Mb
abbrev Cap:=aE
abbrev dA:=aO
abbrev rZ:Cap:=⟨0,0,0,0⟩
theorem rd (c:Cap):c.C.length = 4:=rfl
theorem wD (c:dA):c.C.length = 2:=rfl
theorem place_one (c:dA):dS c.C = true:=rfl
instance:DecidableEq dA:=fun a b=>decidable_of_iff (a.fCa = b.fCa/\a.fEa = b.fEa) ⟨fun h=>by cases a; cases b; simp_all,fun h=>by subst h; exact ⟨rfl,rfl⟩⟩
def enc8 (r:List Cap):List Value:=((r++replicate 8 rZ).take 8).flatMap aE.C
theorem enc8_len (r:List Cap):(enc8 r).length = 32:=by unfold enc8; rw [dG rd]; simp
theorem enc8_eq {r:List Cap} (h:r.length = 8):enc8 r = r.flatMap aE.C:=by
 unfold enc8; rw [List.take_append_of_le_length (by omega),← h,take_length]
namespace fAa
abbrev T:=List (List Cap)
def has (t:T) (e s:Int):Bool:=decide (0 <= e/\e < t.length/\0 <= s/\s < 8)
def get (t:T) (e s:Int):Cap:=(t.getD e.toNat []).getD s.toNat rZ
def put (t:T) (e s:Int) (c:Cap):T:=t.set e.toNat ((t.getD e.toNat []).set s.toNat c)
def at_ (t:T) (e s:Int):Cap × Bool:=if has t e s = true/\(get t e s).fBa ≠ 0 then (get t e s,true) else (rZ,false)
def root (t:T) (e s f:Int):Int × T :=
 if has t e s = false\/f < 0\/f >= 16 then (2,t) else if (get t e s).fBa ≠ 0 then (4,t) else (0,put t e s ⟨f,3,-1,0⟩)
def derive (t:T) (e src to dst r:Int):Int × T :=
 if has t e src = false\/has t to dst = false\/cK r = false then (2,t)
 else if (get t e src).fBa = 0 then (3,t) else if (get t to dst).fBa ≠ 0 then (4,t)
 else if bm r (get t e src).fBa = false then (5,t) else (0,put t to dst ⟨(get t e src).fFa,r,e,src⟩)
def up:Nat->T->Cap->dA->Bool
 | 0,_,_,_=>false
 | n + 1,t,c,p=>if c.fBa ≠ 0/\0 <= c.fCa then (if c.fCa = p.fCa/\c.fEa = p.fEa then true else up n t (get t c.fCa c.fEa) p) else false
def deep:Nat->T->Cap->Nat
 | 0,_,_=>0
 | n + 1,t,c=>if c.fBa ≠ 0/\0 <= c.fCa then deep n t (get t c.fCa c.fEa) + 1 else 0
def under (t:T) (c:Cap) (p:dA):Bool:=up 40 t c p
def rowOf (P:Int->Int->Cap->Bool) (e:Int):List Cap->Int->List dA
 | [],_=>[]
 | c::cs,s=>if c.fBa ≠ 0/\P e s c = true then ⟨e,s⟩::rowOf P e cs (s + 1) else rowOf P e cs (s + 1)
def allOf (P:Int->Int->Cap->Bool):T->Int->List dA
 | [],_=>[]
 | r::rs,e=>rowOf P e r 0++allOf P rs (e + 1)
def below (t:T) (e s:Int):List dA:=allOf (fun _ _ c=>under t c ⟨e,s⟩) t 0
def own (t:T) (e s:Int):List dA:=allOf (fun a b c=>aO.eqb ⟨a,b⟩ ⟨e,s⟩ || under t c ⟨e,s⟩) t 0
def fAb (t:T):List dA->T
 | []=>t
 | p::l=>fAb (put t p.fCa p.fEa rZ) l
def look (t:T) (e s:Int):Int:=if has t e s = false then 2 else if (get t e s).fBa = 0 then 3 else 0
def revoke (t:T) (e s:Int):(List dA × Int) × T:=if look t e s ≠ 0 then (([],look t e s),t) else ((below t e s,0),fAb t (below t e s))
def drop (t:T) (e s:Int):(List dA × Int) × T:=if look t e s ≠ 0 then (([],look t e s),t) else ((own t e s,0),fAb t (own t e s))
structure Ok (t:T):Prop where
 len:t.length <= 4
 row:∀ r ∈ t,r.length = 8
 rk:∃ rank:Int->Int->Nat,∀ e s,has t e s = true->(get t e s).fBa ≠ 0->0 <= (get t e s).fCa ->
  has t (get t e s).fCa (get t e s).fEa = true/\(get t (get t e s).fCa (get t e s).fEa).fBa ≠ 0/\rank (get t e s).fCa (get t e s).fEa < rank e s
theorem has_nat {t:T} {e s:Int} (h:has t e s = true):∃ m n:Nat,e = m/\s = n/\m < t.length/\n < 8:=by
 unfold has at h;have:=of_decide_eq_true h;exact ⟨e.toNat,s.toNat,by omega,by omega,by omega,by omega⟩
theorem has_of {t:T} {m n:Nat} (h1:m < t.length) (h2:n < 8):has t m n = true:=by
 unfold has; exact decide_eq_true ⟨by omega,by omega,by omega,by omega⟩
theorem get_nat' {t:T} (ok:∀ r ∈ t,r.length = 8) {m n:Nat} (h1:m < t.length) (h2:n < 8):∃ h3:n < t[m].length,get t m n = t[m][n]:=by
 have:=ok _ (getElem_mem h1);refine ⟨by omega,?_⟩;have h3:n < t[m].length:=by omega
 simp [get,h1,h3]
theorem put_nat {t:T} {m n:Nat} (h1:m < t.length) (c:Cap):put t m n c = t.set m (t[m].set n c):=by simp [put,h1]
theorem put_len (t:T) (e s:Int) (c:Cap):(put t e s c).length = t.length:=by simp [put]
theorem uV (t:T) (e s:Int) (c:Cap) (a b:Int):has (put t e s c) a b = has t a b:=by unfold has; rw [put_len]
theorem put_row {t:T} (ok:∀ r ∈ t,r.length = 8) (e s:Int) (c:Cap):∀ r ∈ put t e s c,r.length = 8:=by
 intro r hr;unfold put at hr;rcases List.mem_or_eq_of_mem_set hr with h | h
 ·exact ok r h
 ·subst h;by_cases hm:e.toNat < t.length
  ·simp [hm]; exact ok _ (getElem_mem hm)
  ·rw [List.set_eq_of_length_le (by omega)] at hr; exact ok _ hr
theorem xV {t:T} (ok:∀ r ∈ t,r.length = 8) {e s a b:Int} (h:has t e s = true) (h2:has t a b = true) (c:Cap):get (put t e s c) a b = if a = e/\b = s then c else get t a b:=by
 obtain ⟨m,n,rfl,rfl,hm,hn⟩:=has_nat h;obtain ⟨i,j,rfl,rfl,hi,hj⟩:=has_nat h2;have hl:=ok _ (getElem_mem hm);rw [put_nat hm];simp only [get,Int.toNat_natCast,List.getD_eq_getElem?_getD,List.getElem?_set];by_cases e1:m = i
 ·subst e1;by_cases e2:n = j
  ·subst e2; simp [hm,hl,hn]
  ·have:¬ ((m:Int) = m/\(j:Int) = n):=by omega
   rw [if_neg this]; simp [hm,e2]
 ·have:¬ ((i:Int) = m/\(j:Int) = n):=by omega
  rw [if_neg this]; simp [e1]
theorem pigeon:∀ (n:Nat) (l:List Nat),l.Nodup->(∀ x ∈ l,x < n)->l.length <= n
 | 0,l,_,h=>by
  cases l with
  | nil=>simp
  | cons a l=>exact absurd (h a (by simp)) (by omega)
 | n + 1,l,d,h=>by
  have h1:=pigeon n (l.erase n) (d.erase n) (fun x hx=>by
   have h2:=d.mem_erase_iff.1 hx;have:=h x h2.2;have:=h2.1;omega)
  rw [List.length_erase] at h1;split at h1 <;> omega
theorem path {t:T} (ok:Ok t) {rank:Int->Int->Nat} (hr:∀ e s,has t e s = true->(get t e s).fBa ≠ 0->0 <= (get t e s).fCa ->
  has t (get t e s).fCa (get t e s).fEa = true/\(get t (get t e s).fCa (get t e s).fEa).fBa ≠ 0/\rank (get t e s).fCa (get t e s).fEa < rank e s) :
  ∀ (n:Nat) (e s:Int),has t e s = true->∃ l:List Nat,l.length = deep n t (get t e s)/\l.Pairwise (fun a b=>rank (b / 8:Nat) (b % 8:Nat) < rank (a / 8:Nat) (a % 8:Nat))/\∀ a ∈ l,a < 32/\rank (a / 8:Nat) (a % 8:Nat) < rank e s
 | 0,_,_,_=>⟨[],rfl,.nil,fun a h=>by cases h⟩
 | n + 1,e,s,h=>by
  by_cases hc:(get t e s).fBa ≠ 0/\0 <= (get t e s).fCa
  ·obtain ⟨h1,h2,h3⟩:=hr e s h hc.1 hc.2;obtain ⟨l,hl,hp,hb⟩:=path ok hr n _ _ h1;obtain ⟨i,j,ei,ej,hi,hj⟩:=has_nat h1;have hlen:=ok.len;have e1:(i * 8 + j) / 8 = i:=by omega
   have e2:(i * 8 + j) % 8 = j:=by omega
   refine ⟨(i * 8 + j)::l,?_,?_,?_⟩
   ·simp only [List.length_cons,deep]; rw [if_pos hc,hl]
   ·refine List.pairwise_cons.2 ⟨fun b hb'=>?_,hp⟩;have:=(hb b hb').2;rw [e1,e2,← ei,← ej]; exact this
   ·intro a ha;rcases mem_cons.1 ha with rfl | ha
    ·rw [e1,e2,← ei,← ej]; exact ⟨by omega,h3⟩
    ·exact ⟨(hb a ha).1,Nat.lt_trans (hb a ha).2 h3⟩
  ·exact ⟨[],by simp only [deep]; rw [if_neg hc]; rfl,.nil,fun a h=>by cases h⟩
theorem deep_le {t:T} (ok:Ok t) {e s:Int} (h:has t e s = true) (n:Nat):deep n t (get t e s) <= 32:=by
 obtain ⟨rank,hr⟩:=ok.rk;obtain ⟨l,hl,hp,hb⟩:=path ok hr n e s h;rw [← hl];refine pigeon 32 l (hp.imp ?_) (fun x hx=>(hb x hx).1);rintro a b hab rfl;exact absurd hab (Nat.lt_irrefl _)
theorem deep_s (n:Nat) (t:T) (c:Cap):deep (n + 1) t c = if c.fBa ≠ 0/\0 <= c.fCa then deep n t (get t c.fCa c.fEa) + 1 else 0:=rfl
theorem up_s (n:Nat) (t:T) (c:Cap) (p:dA):up (n + 1) t c p = if c.fBa ≠ 0/\0 <= c.fCa then (if c.fCa = p.fCa/\c.fEa = p.fEa then true else up n t (get t c.fCa c.fEa) p) else false:=rfl
theorem deep_succ {t:T}:∀ {n:Nat} {c:Cap},deep n t c < n->deep (n + 1) t c = deep n t c
 | 0,_,h=>by omega
 | n + 1,c,h=>by
  rw [deep_s (n + 1) t c,deep_s n t c];rw [deep_s n] at h;by_cases hc:c.fBa ≠ 0/\0 <= c.fCa
  ·rw [if_pos hc] at h;rw [if_pos hc,if_pos hc,deep_succ (n:=n) (by omega)]
  ·rw [if_neg hc,if_neg hc]
theorem up_succ {t:T} {p:dA}:∀ {n:Nat} {c:Cap},deep n t c < n->up (n + 1) t c p = up n t c p
 | 0,_,h=>by omega
 | n + 1,c,h=>by
  rw [up_s (n + 1) t c p,up_s n t c p];rw [deep_s n] at h;by_cases hc:c.fBa ≠ 0/\0 <= c.fCa
  ·rw [if_pos hc] at h;rw [if_pos hc,if_pos hc,up_succ (n:=n) (by omega)]
  ·rw [if_neg hc,if_neg hc]
theorem under_step {t:T} (ok:Ok t) {e s:Int} (h:has t e s = true) (p:dA):under t (get t e s) p = if (get t e s).fBa ≠ 0/\0 <= (get t e s).fCa then (if (get t e s).fCa = p.fCa/\(get t e s).fEa = p.fEa then true else under t (get t (get t e s).fCa (get t e s).fEa) p) else false:=by
 have h1:=deep_le ok h 40;unfold under;by_cases hc:(get t e s).fBa ≠ 0/\0 <= (get t e s).fCa
 ·rw [deep_s 39,if_pos hc] at h1;rw [up_s 39,up_succ (n:=39) (by omega)]
 ·rw [up_s 39,if_neg hc,if_neg hc]
theorem deep_step {t:T} (ok:Ok t) {e s:Int} (h:has t e s = true) (hc:(get t e s).fBa ≠ 0/\0 <= (get t e s).fCa):deep 40 t (get t (get t e s).fCa (get t e s).fEa) < deep 40 t (get t e s):=by
 have h1:=deep_le ok h 40;rw [deep_s 39,if_pos hc] at h1;rw [deep_succ (n:=39) (by omega),deep_s 39,if_pos hc];omega
theorem ok_new (n:Nat) (h:n <= 4):Ok (replicate n (replicate 8 rZ)):=by
 refine ⟨by simpa using h,fun r hr=>?_,fun _ _=>0,fun e s hh hne=>?_⟩
 ·rw [(List.mem_replicate.1 hr).2]; rfl
 ·exfalso
  apply hne;obtain ⟨i,j,rfl,rfl,hi,hj⟩:=has_nat hh;simp only [List.length_replicate] at hi;simp only [get,Int.toNat_natCast,List.getD_eq_getElem?_getD,List.getElem?_replicate,if_pos hi,Option.getD_some,if_pos hj]
theorem ok_put {t:T} (ok:Ok t) {e s:Int} (h:has t e s = true) (h0:(get t e s).fBa = 0) (c:Cap) (hc:0 <= c.fCa->has t c.fCa c.fEa = true/\(get t c.fCa c.fEa).fBa ≠ 0):Ok (put t e s c):=by
 obtain ⟨rank,hr⟩:=ok.rk;refine ⟨by rw [put_len]; exact ok.len,put_row ok.row e s c,fun a b=>if a = e/\b = s then rank c.fCa c.fEa + 1 else rank a b,fun a b hab hne hen=>?_⟩;rw [uV] at hab;have keep:∀ {i j:Int},has t i j = true->(get t i j).fBa ≠ 0->¬ (i = e/\j = s):=by
  rintro i j _ hn ⟨rfl,rfl⟩; exact hn h0
 have hg:=xV ok.row h hab c;rw [hg] at hne hen ⊢;by_cases hes:a = e/\b = s
 ·rw [if_pos hes] at hne hen ⊢;obtain ⟨h1,h2⟩:=hc hen;have hk:=keep h1 h2;refine ⟨by rw [uV]; exact h1,by rw [xV ok.row h h1,if_neg hk]; exact h2,?_⟩;show (if c.fCa = e/\c.fEa = s then _ else _) < (if a = e/\b = s then _ else _)
  rw [if_neg hk,if_pos hes]; omega
 ·rw [if_neg hes] at hne hen ⊢;obtain ⟨h1,h2,h3⟩:=hr a b hab hne hen;have hk:=keep h1 h2;refine ⟨by rw [uV]; exact h1,by rw [xV ok.row h h1,if_neg hk]; exact h2,?_⟩;show (if (get t a b).fCa = e/\(get t a b).fEa = s then _ else _) < (if a = e/\b = s then _ else _)
  rw [if_neg hk,if_neg hes]; exact h3
theorem rI:∀ (l:List dA) (t:T),(fAb t l).length = t.length
 | [],_=>rfl
 | p::l,t=>by rw [fAb,rI l,put_len]
theorem empties_has (t:T) (l:List dA) (a b:Int):has (fAb t l) a b = has t a b:=by unfold has; rw [rI]
theorem empties_row:∀ (l:List dA) (t:T),(∀ r ∈ t,r.length = 8)->∀ r ∈ fAb t l,r.length = 8
 | [],_,h=>h
 | p::l,t,h=>empties_row l _ (put_row h _ _ _)
theorem rJ:∀ (l:List dA) (t:T),(∀ r ∈ t,r.length = 8)->(∀ p ∈ l,has t p.fCa p.fEa = true)->∀ a b,has t a b = true->get (fAb t l) a b = if (⟨a,b⟩:dA) ∈ l then rZ else get t a b
 | [],_,_,_,_,_,_=>by simp [fAb]
 | p::l,t,h,hl,a,b,hab=>by
  rw [fAb,rJ l _ (put_row h _ _ _) (fun q hq=>by rw [uV]; exact hl q (by simp [hq])) a b (by rw [uV]; exact hab),xV h (hl p (by simp)) hab];by_cases h1:(⟨a,b⟩:dA) ∈ l
  ·rw [if_pos h1,if_pos (by simp [h1])]
  ·rw [if_neg h1];by_cases h2:a = p.fCa/\b = p.fEa
   ·obtain ⟨rfl,rfl⟩:=h2;rw [if_pos ⟨rfl,rfl⟩,if_pos (by simp)]
   ·rw [if_neg h2,if_neg];intro hm;rcases mem_cons.1 hm with hm | hm
    ·subst hm; exact h2 ⟨rfl,rfl⟩
    ·exact h1 hm
theorem rowOf_c (P:Int->Int->Cap->Bool) (e:Int) (c:Cap) (cs:List Cap) (s:Int):rowOf P e (c::cs) s = if c.fBa ≠ 0/\P e s c = true then ⟨e,s⟩::rowOf P e cs (s + 1) else rowOf P e cs (s + 1):=rfl
theorem mem_rowOf {P:Int->Int->Cap->Bool} {e:Int} {p:dA}:∀ {cs:List Cap} {s:Int},p ∈ rowOf P e cs s↔p.fCa = e/\∃ (n:Nat) (c:Cap),cs[n]? = some c/\p.fEa = s + n/\c.fBa ≠ 0/\P e (s + n) c = true
 | [],s=>by simp [rowOf]
 | c::cs,s=>by
  have ih:=mem_rowOf (P:=P) (e:=e) (p:=p) (cs:=cs) (s:=s + 1);have tail:(p.fCa = e/\∃ (n:Nat) (c':Cap),cs[n]? = some c'/\p.fEa = s + 1 + n/\c'.fBa ≠ 0/\P e (s + 1 + n) c' = true)↔(p.fCa = e/\∃ (n:Nat) (c':Cap),(c::cs)[n + 1]? = some c'/\p.fEa = s + ((n + 1:Nat):Int)/\c'.fBa ≠ 0/\P e (s + ((n + 1:Nat):Int)) c' = true):=by
   have:∀ n:Nat,s + ((n + 1:Nat):Int) = s + 1 + n:=fun n=>by omega
   simp only [this,List.getElem?_cons_succ]
  have split0:(p.fCa = e/\∃ (n:Nat) (c':Cap),(c::cs)[n]? = some c'/\p.fEa = s + n/\c'.fBa ≠ 0/\P e (s + n) c' = true)↔(p = ⟨e,s⟩/\c.fBa ≠ 0/\P e s c = true)\/(p.fCa = e/\∃ (n:Nat) (c':Cap),(c::cs)[n + 1]? = some c'/\p.fEa = s + ((n + 1:Nat):Int)/\c'.fBa ≠ 0/\P e (s + ((n + 1:Nat):Int)) c' = true):=by
   constructor
   ·rintro ⟨he,n,c',h1,h2,h3,h4⟩;cases n with
    | zero =>
     simp at h1; subst h1;simp at h2 h4;exact .inl ⟨by cases p; simp_all,h3,h4⟩
    | succ n=>exact .inr ⟨he,n,c',h1,h2,h3,h4⟩
   ·rintro (⟨rfl,h3,h4⟩ | ⟨he,n,c',h1,h2,h3,h4⟩)
    ·exact ⟨rfl,0,c,rfl,by simp,h3,by simpa using h4⟩
    ·exact ⟨he,n + 1,c',h1,h2,h3,h4⟩
  rw [split0,← tail,← ih,rowOf_c];split
  ·rename_i hc;rw [mem_cons];constructor
   ·rintro (h | h)
    ·exact .inl ⟨h,hc⟩
    ·exact .inr h
   ·rintro (h | h)
    ·exact .inl h.1
    ·exact .inr h
  ·rename_i hc;constructor
   ·exact .inr
   ·rintro (h | h)
    ·exact absurd h.2 hc
    ·exact h
theorem mem_allOf {P:Int->Int->Cap->Bool} {p:dA}:∀ {t:T} {e:Int},p ∈ allOf P t e↔∃ (m n:Nat) (r:List Cap) (c:Cap),t[m]? = some r/\r[n]? = some c/\p = ⟨e + m,n⟩/\c.fBa ≠ 0/\P (e + m) n c = true
 | [],e=>by simp [allOf]
 | r::t,e=>by
  rw [allOf,List.mem_append,mem_rowOf,mem_allOf];constructor
  ·rintro (⟨h1,n,c,h2,h3,h4,h5⟩ | ⟨m,n,r',c,h1,h2,rfl,h4,h5⟩)
   ·refine ⟨0,n,r,c,rfl,h2,?_,h4,?_⟩
    ·cases p; simp_all
    ·simpa using h5
   ·refine ⟨m + 1,n,r',c,by simpa using h1,h2,?_,h4,?_⟩
    ·congr 1; omega
    ·rw [show e + ((m + 1:Nat):Int) = e + 1 + m from by omega]; exact h5
  ·rintro ⟨m,n,r',c,h1,h2,rfl,h4,h5⟩;cases m with
   | zero =>
    simp at h1; subst h1;exact .inl ⟨by simp,n,c,h2,by simp,h4,by simpa using h5⟩
   | succ m =>
    refine .inr ⟨m,n,r',c,by simpa using h1,h2,?_,h4,?_⟩
    ·congr 1; omega
    ·rw [show e + 1 + (m:Int) = e + ((m + 1:Nat):Int) from by omega]; exact h5
theorem mem_all {t:T} (row:∀ r ∈ t,r.length = 8) {P:Int->Int->Cap->Bool} {p:dA}:p ∈ allOf P t 0↔has t p.fCa p.fEa = true/\(get t p.fCa p.fEa).fBa ≠ 0/\P p.fCa p.fEa (get t p.fCa p.fEa) = true:=by
 rw [mem_allOf];constructor
 ·rintro ⟨m,n,r,c,h1,h2,rfl,h4,h5⟩;obtain ⟨hm,e1⟩:=List.getElem?_eq_some_iff.1 h1;obtain ⟨hn,e2⟩:=List.getElem?_eq_some_iff.1 h2;have h8:=row r (List.mem_of_getElem? h1);simp only [zero_add] at h5 ⊢;have hg:get t m n = c:=by simp [get,h1,h2]
  rw [hg];exact ⟨has_of hm (by omega),h4,h5⟩
 ·rintro ⟨h1,h2,h3⟩;obtain ⟨m,n,em,en,hm,hn⟩:=has_nat h1;rw [em,en] at h2 h3;obtain ⟨hn',hg⟩:=get_nat' row hm hn;rw [hg] at h2 h3;refine ⟨m,n,t[m],t[m][n],by simp [hm],by simp [hn'],?_,h2,by simpa using h3⟩;cases p; simp_all
theorem mem_below {t:T} (ok:Ok t) {e s:Int} {p:dA}:p ∈ below t e s↔has t p.fCa p.fEa = true/\(get t p.fCa p.fEa).fBa ≠ 0/\under t (get t p.fCa p.fEa) ⟨e,s⟩ = true:=mem_all ok.row
theorem eqb_place (p q:dA):aO.eqb p q = true↔p = q:=by
 cases p; cases q; simp [aO.eqb]
theorem mem_own {t:T} (ok:Ok t) {e s:Int} {p:dA}:p ∈ own t e s↔has t p.fCa p.fEa = true/\(get t p.fCa p.fEa).fBa ≠ 0/\(p = ⟨e,s⟩\/under t (get t p.fCa p.fEa) ⟨e,s⟩ = true):=by
 unfold own;rw [mem_all ok.row,Bool.or_eq_true,eqb_place]
theorem under_rights {t:T} {c:Cap} {p:dA} (h:under t c p = true):c.fBa ≠ 0:=by
 unfold under at h; rw [up_s 39] at h;split at h
 ·rename_i hc; exact hc.1
 ·cases h
theorem ok_empties {t:T} (ok:Ok t) {l:List dA} (hl:∀ p ∈ l,has t p.fCa p.fEa = true)
  (cl:∀ e s,has t e s = true->(get t e s).fBa ≠ 0->0 <= (get t e s).fCa->(⟨(get t e s).fCa,(get t e s).fEa⟩:dA) ∈ l->(⟨e,s⟩:dA) ∈ l):Ok (fAb t l):=by
 obtain ⟨rank,hr⟩:=ok.rk;refine ⟨by rw [rI]; exact ok.len,empties_row l t ok.row,rank,fun a b hab hne hen=>?_⟩;rw [empties_has] at hab;have hg:=rJ l t ok.row hl a b hab;by_cases hm:(⟨a,b⟩:dA) ∈ l
 ·rw [if_pos hm] at hg; rw [hg] at hne; exact absurd rfl hne
 ·rw [if_neg hm] at hg;rw [hg] at hne hen ⊢;obtain ⟨h1,h2,h3⟩:=hr a b hab hne hen;have hp:(⟨(get t a b).fCa,(get t a b).fEa⟩:dA) ∉ l:=fun h=>hm (cl a b hab hne hen h);refine ⟨by rw [empties_has]; exact h1,?_,h3⟩;rw [rJ l t ok.row hl _ _ h1,if_neg hp]; exact h2
theorem ok_below {t:T} (ok:Ok t) (e s:Int):Ok (fAb t (below t e s)):=by
 refine ok_empties ok (fun p hp=>((mem_below ok).1 hp).1) fun a b hab hne hen hp=>?_;have h1:=(mem_below ok).1 hp;refine (mem_below ok).2 ⟨hab,hne,?_⟩;rw [under_step ok hab,if_pos ⟨hne,hen⟩];split
 ·rfl
 ·exact h1.2.2
theorem ok_own {t:T} (ok:Ok t) (e s:Int):Ok (fAb t (own t e s)):=by
 refine ok_empties ok (fun p hp=>((mem_own ok).1 hp).1) fun a b hab hne hen hp=>?_;have h1:=(mem_own ok).1 hp;refine (mem_own ok).2 ⟨hab,hne,.inr ?_⟩;rw [under_step ok hab,if_pos ⟨hne,hen⟩];split
 ·rfl
 ·rename_i hno;rcases h1.2.2 with h | h
  ·exact absurd ⟨congrArg aO.fCa h,congrArg aO.fEa h⟩ hno
  ·exact h
theorem ok_root {t:T} (ok:Ok t) (e s f:Int):Ok (root t e s f).2:=by
 unfold root;split
 ·exact ok
 ·split
  ·exact ok
  ·rename_i h1 h2;refine ok_put ok (by simp at h1; exact h1.1) (by simpa using h2) _ (fun h=>?_);exact absurd h (by show ¬ (0:Int) <= -1; omega)
theorem ok_derive {t:T} (ok:Ok t) (e src to dst r:Int):Ok (derive t e src to dst r).2:=by
 unfold derive;split
 ·exact ok
 ·split
  ·exact ok
  ·split
   ·exact ok
   ·split
    ·exact ok
    ·rename_i h1 h2 h3 h4;simp at h1;exact ok_put ok h1.2.1 (by simpa using h3) _ (fun _=>⟨h1.1,h2⟩)
theorem ok_revoke {t:T} (ok:Ok t) (e s:Int):Ok (revoke t e s).2:=by
 unfold revoke; split
 ·exact ok
 ·exact ok_below ok e s
theorem ok_drop {t:T} (ok:Ok t) (e s:Int):Ok (drop t e s).2:=by
 unfold drop; split
 ·exact ok
 ·exact ok_own ok e s
end fAa
end
end Go.Proofs.YtochchocdckegaaGreatDoor
