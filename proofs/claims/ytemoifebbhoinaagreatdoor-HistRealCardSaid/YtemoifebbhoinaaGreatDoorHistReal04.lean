/- Part of the proof of: The law HistReal returns true for every input, and leaves its arguments as they were. -/
import Derived.Test.YtemoifebbhoinaaGreatDoorHistReal03
set_option linter.all false
set_option maxRecDepth 20000
namespace Go.Proofs.YtemoifebbhoinaaGreatDoor
open Go.Proofs.Tryz
open Go.IntKind (i64 u64)
open _root_.Int (zero_add)
open _root_.List (append_nil cons_append getElem_mem mem_cons replicate take_length)
open _root_.Nat (zero_le)
section
open Go Mb
abbrev vI (s:Sl) (xs:List Int):As:=vec lD 1 (cI .i64) s xs
def fE (a:Int):List Int->Int->Int
 | [],_=>-1
 | x::xs,i=>if a = x then i else fE a xs (i + 1)
theorem sp_slices_Index (s:Sl) (a:Int) (xs:List Int) (hb:xs.length < 2^62) :
  Sp prog kF [sv s,.int .i64 a] eF [vI s xs] (fun r=>pa_ (r = fE a xs 0) [vI s xs]):=by
 intro h st
 refine vZ _ _ ?_
 unfold oG
 refine Lp.intro (fun (i:Int) h=>∃ n:Nat,i = n/\n <= xs.length/\fE a (xs.drop n) n = fE a xs 0/\aB [vI s xs] h) (fun (i:Int) _=>xs.length - i.toNat) ⟨0,rfl,zero_le _,by simp,st⟩ ?_
 rintro i h ⟨n,rfl,hn,he,st⟩
 have hl:=(cc st (j:=0) rfl).1
 unfold jT
 refine aY (fun k=>?_) (fun k=>?_)
 ·have hlt:n < xs.length:=by simp [hl] at k; exact k
  refine cZ st (j:=0) rfl (by omega) (by omega) fun q hq=>?_
  refine dz (j:=0) (i:=n) (k:=0) xs[n] (ct _) st rfl hq (by simp) (aE hlt) (by simp) ?_
  have hd:xs.drop n = xs[n]::xs.drop (n + 1):=List.drop_eq_getElem_cons hlt
  rw [hd] at he
  refine aY (fun k2=>?_) (fun k2=>?_)
  ·have k2':a = xs[n]:=by simpa using k2
   rw [fE,if_pos k2'] at he
   exact ⟨he,st⟩
  ·have k2':¬ a = xs[n]:=by simpa using k2
   rw [fE,if_neg k2'] at he
   have hw:i64.wrap ((n:Int) + 1) = ((n + 1:Nat):Int):=by rw [bm (by omega) (by omega)]; rfl
   rw [hw]
   exact ⟨⟨n + 1,rfl,hlt,by simpa using he,st⟩,by simp; omega⟩
 ·have:n = xs.length:=by simp [hl] at k; omega
  subst this
  simp only [List.drop_length,fE] at he
  exact ⟨he,st⟩
def gj (x:Ptr) (p:List Int):As:=fun h=>∃ bs:Nat × Sl,(x = some (bs.1,0)/\p.length <= 16)/\aB [blk bs.1 rp [sv bs.2],vI bs.2 p] h
namespace Pool
def refs (p:List Int) (i:Int):Int:=if i < 0 then 0 else p.getD i.toNat 0
def take (p:List Int):Int × Bool × List Int :=
 if fE 0 p 0 < 0 then (0,false,p) else (fE 0 p 0,true,p.set (fE 0 p 0).toNat 1)
def hold (p:List Int) (i:Int):Bool × List Int :=
 if refs p i = 0\/refs p i >= 7 then (false,p) else (true,p.set i.toNat (i64.wrap (refs p i + 1)))
def lets (p:List Int) (i:Int):Int × Bool × List Int :=
 if refs p i = 0 then (0,false,p) else (i64.wrap (refs p i - 1),true,p.set i.toNat (i64.wrap (refs p i - 1)))
def freeFrom:List Int->Int->List Int
 | [],_=>[]
 | x::xs,i=>if x = 0 then i::freeFrom xs (i + 1) else freeFrom xs (i + 1)
def free (p:List Int):List Int:=freeFrom p 0
end Pool
theorem idx_lt (a:Int):∀ (xs:List Int) (i:Int),fE a xs i = -1\/∃ n:Nat,n < xs.length/\fE a xs i = i + n
 | [],_=>.inl rfl
 | x::xs,i=>by
  unfold fE
  split
  ·exact .inr ⟨0,by simp,by simp⟩
  ·rcases idx_lt a xs (i + 1) with h | ⟨n,h1,h2⟩
   ·exact .inl h
   ·exact .inr ⟨n + 1,by simp; omega,by rw [h2]; omega⟩
theorem pool_op {x:Ptr} {p:List Int} {l:List As} {h:Hp} (s0:aB (gj x p::l) h):∃ b s,x = some (b,0)/\p.length <= 16/\s.len = p.length/\aB (blk b rp [sv s]::vI s p::l) h:=by
 obtain ⟨⟨b,s⟩,⟨hx,hb⟩,st⟩:=op_ s0
 exact ⟨b,s,hx,hb,(cc (j:=1) st rfl).1,st⟩
theorem sY {b:Nat} {s:Sl} {p:List Int} {l:List As} {h:Hp} (hb:p.length <= 16) (st:aB (blk b rp [sv s]::vI s p::l) h):aB (gj (some (b,0)) p::l) h:=cl_ (b,s) ⟨rfl,hb⟩ st
theorem sp_pool_New (n:Int) (h1:¬ n < 1) (h2:¬ n > 16):Sp prog yl [.int .i64 n] tk [] (fun r=>aB [gj r (replicate n.toNat 0)]):=by
 intro h st
 refine sim_pool_New _ ?_
 unfold sh_pool_New
 obtain ⟨m,rfl⟩:=Int.eq_ofNat_of_zero_le (show 0 <= n by omega)
 refine dO (by simp; omega) ?_
 refine oO (τ:=Int) (x0:=0) (enc:=cI .i64) (n:=m) (T:=lD) (m:=1) el_Sint rfl st ?_ ?_ ?_
 ·omega
 ·omega
 ·intro v h' s1
  refine pG s1 fun b h'' s2=>?_
  exact sY (by simp; omega) s2
theorem xF (x:Ptr) (p:List Int) (i:Int):Sp prog jX [pv x,.int .i64 i] eF [gj x p] (fun r=>pa_ (r = Pool.refs p i) [gj x p]):=by
 intro h s0
 obtain ⟨b,s,rfl,hb,hl,st⟩:=pool_op s0
 refine sim_pool_Pool_Refs _ _ ?_
 unfold uS
 refine aY (fun k=>?_) (fun k=>?_)
 ·have h0:0 <= i:=by simpa using k
  obtain ⟨n,rfl⟩:=Int.eq_ofNat_of_zero_le h0
  refine cL ?_
  refine bp s st (i:=0) rfl rfl rfl ?_
  refine aY (fun k2=>?_) (fun k2=>?_)
  ·have:p.length <= n:=by rw [hl] at k2; simpa using k2
   exact aZ (by simp [Pool.refs,this]) (sY hb st)
  ·have hlt:n < p.length:=by rw [hl] at k2; simpa using k2
   refine bp s st (i:=0) rfl rfl rfl ?_
   refine cZ st (j:=1) rfl (by omega) (by omega) fun q hq=>?_
   refine dz (j:=1) (i:=n) (k:=0) p[n] (ct _) st rfl hq (by simp) (aE hlt) (by simp) ?_
   refine aZ ?_ (sY hb st)
   have:¬ ((n:Int) < 0):=by omega
   simp [Pool.refs,hlt,this]
 ·have h0:i < 0:=by simpa using k
  exact aZ (by simp [Pool.refs,h0]) (sY hb st)
theorem xE (x:Ptr) (p:List Int):Sp prog jW [pv x] bI [gj x p] (fun r=>pa_ (r = ((Pool.take p).1,(Pool.take p).2.1)) [gj x (Pool.take p).2.2]):=by
 intro h s0
 obtain ⟨b,s,rfl,hb,hl,st⟩:=pool_op s0
 refine sim_pool_Pool_Take _ ?_
 unfold uR
 refine dO rfl (cL ?_)
 refine bp s st (i:=0) rfl rfl rfl ?_
 refine cW [1] (sp_slices_Index s 0 p (by omega)) st rfl fun r h' s1=>?_
 obtain ⟨hr,s2⟩:=bt.1 s1
 subst hr
 refine aY (fun k=>?_) (fun k=>?_)
 ·have k':fE 0 p 0 < 0:=by simpa using k
  have e:Pool.take p = (0,false,p):=if_pos k'
  rw [e]
  exact aZ rfl (sY hb (bb [1] s2 rfl))
 ·have k':¬ fE 0 p 0 < 0:=by simpa using k
  have e0:Pool.take p = (fE 0 p 0,true,p.set (fE 0 p 0).toNat 1):=if_neg k'
  rw [e0]
  rcases idx_lt 0 p 0 with e | ⟨n,h1,e⟩
  ·omega
  ·rw [zero_add] at e
   refine bp s s2 (i:=1) rfl rfl rfl ?_
   rw [e]
   refine cZ s2 (j:=0) rfl (by omega) (by omega) fun q hq=>?_
   refine uF (j:=0) (i:=n) (k:=0) (1:Int) (ct _) s2 rfl hq (by simp) (aE h1) (by simp) rfl fun h2 s3=>?_
   exact aZ rfl (sY (by simpa using hb) (bb [1] s3 rfl))
theorem refs_get {p:List Int} {i:Int} (h:Pool.refs p i ≠ 0):∃ n:Nat,i = n/\∃ hn:n < p.length,Pool.refs p i = p[n]:=by
 unfold Pool.refs at h ⊢
 by_cases h0:i < 0
 ·rw [if_pos h0] at h; exact absurd rfl h
 ·rw [if_neg h0] at h ⊢
  obtain ⟨n,rfl⟩:=Int.eq_ofNat_of_zero_le (show 0 <= i by omega)
  refine ⟨n,rfl,?_⟩
  by_cases hn:n < p.length
  ·exact ⟨hn,by simp [hn]⟩
  ·simp [List.getD_eq_getElem?_getD,List.getElem?_eq_none (Nat.le_of_not_lt hn)] at h
theorem sp_pool_Hold (x:Ptr) (p:List Int) (i:Int):Sp prog mI [pv x,.int .i64 i] aC [gj x p] (fun r=>pa_ (r = (Pool.hold p i).1) [gj x (Pool.hold p i).2]):=by
 intro h s0
 refine sim_pool_Pool_Hold _ _ ?_
 unfold uT
 refine cW [0] (xF x p i) s0 rfl fun r h' s1=>?_
 obtain ⟨hr,s2⟩:=bt.1 s1
 subst hr
 refine aY (fun k=>?_) (fun k=>?_)
 ·have k':Pool.refs p i = 0\/Pool.refs p i >= 7:=by simpa using k
  have e:Pool.hold p i = (false,p):=if_pos k'
  rw [e]
  exact aZ rfl s2
 ·have k':¬ (Pool.refs p i = 0\/Pool.refs p i >= 7):=by simpa using k
  have e:Pool.hold p i = (true,p.set i.toNat (i64.wrap (Pool.refs p i + 1))):=if_neg k'
  rw [e]
  obtain ⟨n,rfl,hn,hg⟩:=refs_get (p:=p) (i:=i) (by omega)
  obtain ⟨b,s,rfl,hb,hl,st⟩:=pool_op s2
  refine cL ?_
  refine bp s st (i:=0) rfl rfl rfl ?_
  refine cZ st (j:=1) rfl (by omega) (by omega) fun q hq=>?_
  refine dz (j:=1) (i:=n) (k:=0) p[n] (ct _) st rfl hq (by simp) (aE hn) (by simp) ?_
  refine uF (j:=1) (i:=n) (k:=0) (i64.wrap (p[n] + 1)) (ct _) st rfl hq (by simp) (aE hn) (by simp) rfl fun h2 s3=>?_
  rw [hg]
  exact aZ rfl (sY (by simpa using hb) s3)
theorem sp_pool_Let (x:Ptr) (p:List Int) (i:Int):Sp prog nU [pv x,.int .i64 i] bI [gj x p] (fun r=>pa_ (r = ((Pool.lets p i).1,(Pool.lets p i).2.1)) [gj x (Pool.lets p i).2.2]):=by
 intro h s0
 refine sim_pool_Pool_Let _ _ ?_
 unfold wN
 refine cW [0] (xF x p i) s0 rfl fun r h' s1=>?_
 obtain ⟨hr,s2⟩:=bt.1 s1
 subst hr
 refine aY (fun k=>?_) (fun k=>?_)
 ·have k':Pool.refs p i = 0:=by simpa using k
  have e:Pool.lets p i = (0,false,p):=if_pos k'
  rw [e]
  exact aZ rfl s2
 ·have k':¬ (Pool.refs p i = 0):=by simpa using k
  have e:Pool.lets p i = (i64.wrap (Pool.refs p i - 1),true,p.set i.toNat (i64.wrap (Pool.refs p i - 1))):=if_neg k'
  rw [e]
  obtain ⟨n,rfl,hn,hg⟩:=refs_get (p:=p) (i:=i) k'
  obtain ⟨b,s,rfl,hb,hl,st⟩:=pool_op s2
  refine cL ?_
  refine bp s st (i:=0) rfl rfl rfl ?_
  refine cZ st (j:=1) rfl (by omega) (by omega) fun q hq=>?_
  refine dz (j:=1) (i:=n) (k:=0) p[n] (ct _) st rfl hq (by simp) (aE hn) (by simp) ?_
  refine uF (j:=1) (i:=n) (k:=0) (i64.wrap (p[n] - 1)) (ct _) st rfl hq (by simp) (aE hn) (by simp) rfl fun h2 s3=>?_
  refine bp s s3 (i:=0) rfl rfl rfl ?_
  refine cZ s3 (j:=1) rfl (by omega) (by simp; omega) fun q2 hq2=>?_
  refine dz (j:=1) (i:=n) (k:=0) (i64.wrap (p[n] - 1)) (ct _) s3 rfl hq2 (by simp) (x:=i64.wrap (p[n] - 1)) (by simp [hn]) (by simp) ?_
  rw [hg]
  exact aZ rfl (sY (by simpa using hb) s3)
theorem free_append:∀ (xs:List Int) (i:Int) (x:Int),Pool.freeFrom (xs++[x]) i = Pool.freeFrom xs i++(if x = 0 then [i + xs.length] else [])
 | [],i,x=>by simp only [List.nil_append,Pool.freeFrom]; split <;> simp
 | y::xs,i,x=>by
  simp only [cons_append,Pool.freeFrom]
  rw [free_append xs (i + 1) x]
  have e:i + 1 + (xs.length:Int) = i + ((y::xs).length:Int):=by simp; omega
  rw [e]
  split <;> simp
theorem free_len:∀ (xs:List Int) (i:Int),(Pool.freeFrom xs i).length <= xs.length
 | [],_=>Nat.le_refl _
 | x::xs,i=>by unfold Pool.freeFrom; have:=free_len xs (i + 1); split <;> simp <;> omega
theorem xw {l:List As} {h:Hp} {i:Nat} {s:Sl} {xs:List Int} {x:Int} {K:Sl->Hp->Prop} (st:aB l h) (hi:l[i]? = some (vI s xs)) (hb:xs.length < 2 ^ 40)
  (k:∀ v h',aB (l.set i (vI v (xs++[x]))) h'->K v h'):hpv prog (Instr.buildSlice dU 1 #[(0,.int .i64 x)]) cC (fun y=>hpv prog (Builtin.append_ #[dU,dU] dU #[sv s,sv y]) cC K) h:=by
 refine fP (τ:=Int) [x] (val:=fun x=>.int .i64 x) (enc:=cI .i64) el_Sint (ct _) (fun _=>rfl) st rfl rfl (by simp) fun y h' s1=>?_
 have hlt:=(List.getElem?_eq_some_iff.1 hi).1
 refine uB (τ:=Int) (i:=i + 1) (j:=0) (enc:=cI .i64) (ys:=[x]) el_Sint el_Sint.sl (ct _) (oneI _) s1 (by simpa using hi) rfl (by omega) (by simp; omega) (by simp; omega) fun v h2 s2=>?_
 exact k v h2 (cd (l:=[vI y [x]]) (by simpa using s2))
theorem sp_pool_Free (x:Ptr) (p:List Int):Sp prog mJ [pv x] cC [gj x p] (fun r=>aB [vI r (Pool.free p),gj x p]):=by
 intro h s0
 obtain ⟨b,s,rfl,hb,hl,st⟩:=pool_op s0
 refine sim_pool_Pool_Free _ ?_
 unfold uU
 refine dO rfl (cL ?_)
 refine bp s st (i:=0) rfl rfl rfl ?_
 refine Lp.intro (fun (z:Sl × Int) h=>∃ n:Nat,z.2 = n/\n <= p.length/\aB [vI z.1 (Pool.freeFrom (p.take n) 0),blk b rp [sv s],vI s p] h) (fun (z:Sl × Int) _=>p.length - z.2.toNat) ⟨0,rfl,zero_le _,fX st⟩ ?_
 rintro ⟨z,i⟩ h ⟨n,rfl,hn,s1⟩
 unfold pD
 refine aY (fun k=>?_) (fun k=>?_)
 ·have hlt:n < p.length:=by rw [hl] at k; simpa using k
  have hw:i64.wrap ((n:Int) + 1) = ((n + 1:Nat):Int):=by rw [bm (by omega) (by omega)]; rfl
  have ht:p.take (n + 1) = p.take n++[p[n]]:=by simp
  have hlen:((p.take n).length:Int) = n:=by simp; omega
  refine cZ s1 (j:=2) rfl (by omega) (by show (n:Int) < _; omega) fun q hq=>?_
  refine dz (j:=2) (i:=n) (k:=0) p[n] (ct _) s1 rfl hq (by simp) (aE hlt) (by simp) ?_
  refine aY (fun k2=>?_) (fun k2=>?_)
  ·have k2':p[n] = 0:=by simpa using k2
   refine xw s1 (i:=0) rfl ?_ fun v h' s2=>?_
   ·have:=free_len (p.take n) 0; simp at this ⊢; omega
   ·rw [hw]
    refine ⟨⟨n + 1,rfl,hlt,?_⟩,by simp; omega⟩
    rw [ht,free_append,if_pos k2',hlen,zero_add]
    exact s2
  ·have k2':¬ p[n] = 0:=by simpa using k2
   rw [hw]
   refine ⟨⟨n + 1,rfl,hlt,?_⟩,by simp; omega⟩
   rw [ht,free_append,if_neg k2',append_nil]
   exact s1
 ·have:n = p.length:=by rw [hl] at k; simp at k; omega
  subst this
  rw [take_length] at s1
  exact kX (.cons _ (.refl _)) (bb (l:=[vI z (Pool.freeFrom p 0),gj (some (b,0)) p]) [0] (by
   have:=bb [1,1] s1 rfl
   exact bb [1] (sY hb this) rfl) rfl)
def Pool.bitsOf (w:Int):List Int->Int
 | []=>w
 | i::l=>Pool.bitsOf (ior .u64 w (u64.wrap (1 * 2 ^ (min (Int.toNat i) (IntKind.bits .u64))))) l
def Pool.bits (p:List Int):Int:=Pool.bitsOf 0 (Pool.free p)
theorem free_ge:∀ (xs:List Int) (i:Int),0 <= i->∀ j ∈ Pool.freeFrom xs i,0 <= j
 | [],_,_,_,h=>by cases h
 | x::xs,i,hi,j,h=>by
  unfold Pool.freeFrom at h
  split at h
  ·rcases mem_cons.1 h with rfl | h
   ·exact hi
   ·exact free_ge xs (i + 1) (by omega) j h
  ·exact free_ge xs (i + 1) (by omega) j h
theorem bits_append (a:Int):∀ (l:List Int) (w:Int),Pool.bitsOf w (l++[a]) = ior .u64 (Pool.bitsOf w l) (u64.wrap (1 * 2 ^ (min (Int.toNat a) (IntKind.bits .u64))))
 | [],_=>rfl
 | _::l,w=>by simp only [cons_append,Pool.bitsOf]; exact bits_append a l _
theorem sp_pool_Bits (x:Ptr) (p:List Int):Sp prog qR [pv x] hH [gj x p] (fun r=>pa_ (r = Pool.bits p) [gj x p]):=by
 intro h s0
 have hp16:p.length <= 16:=by obtain ⟨_,_,_,hb,_⟩:=pool_op s0; exact hb
 refine sim_pool_Pool_Bits _ ?_
 unfold uV
 refine cW [0] (sp_pool_Free x p) s0 rfl fun r h1 s1=>?_
 have s2:=dE s1
 have hl:=(cc (j:=0) s2 rfl).1
 have hfl:=free_len p 0
 refine Lp.intro (fun (z:Int × Int) h=>∃ n:Nat,z.2 = n/\n <= (Pool.free p).length/\z.1 = Pool.bitsOf 0 ((Pool.free p).take n)/\aB [vI r (Pool.free p),gj x p] h) (fun (z:Int × Int) _=>(Pool.free p).length - z.2.toNat) ⟨0,rfl,zero_le _,rfl,s2⟩ ?_
 rintro ⟨w,i⟩ h ⟨n,rfl,hn,rfl,s3⟩
 unfold pE
 refine aY (fun k=>?_) (fun k=>?_)
 ·have hlt:n < (Pool.free p).length:=by rw [hl] at k; simpa using k
  have hw:i64.wrap ((n:Int) + 1) = ((n + 1:Nat):Int):=by
   have:(Pool.free p).length <= 16:=by unfold Pool.free; omega
   rw [bm (by omega) (by omega)]; rfl
  refine cZ s3 (j:=0) rfl (by omega) (by show (n:Int) < _; omega) fun q hq=>?_
  refine dz (j:=0) (i:=n) (k:=0) (Pool.free p)[n] (ct _) s3 rfl hq (by simp) (aE hlt) (by simp) ?_
  refine ⟨free_ge p 0 (Int.le_refl _) _ (getElem_mem hlt),?_⟩
  rw [hw]
  refine ⟨⟨n + 1,rfl,hlt,?_,s3⟩,by simp; omega⟩
  have ht:(Pool.free p).take (n + 1) = (Pool.free p).take n++[(Pool.free p)[n]]:=by simp
  rw [ht,bits_append]
 ·have:n = (Pool.free p).length:=by rw [hl] at k; simp at k; omega
  subst this
  refine aZ ?_ (cd (l:=[vI r (Pool.free p)]) s3)
  rw [take_length]; rfl
end
section
open Go Mb
def sh_table_New (K:Ptr->Hp->Prop):Hp->Prop:=hpv prog (Instr.build kW #[]) encL fun (v1:(List Value))=>nw kW v1 fun b2=>K (some (b2,0))
theorem sim_table_New {K:Ptr->Hp->Prop} {h:Hp} (H:sh_table_New K h):cl prog lX [] iO K h:=z_i func107 p p fun _=>O<|U p<|O<|aa<|aV H (x_build (vs:=[]) p) p fun v1 _ H1=>aa<|iw p p p H1 fun b2 _ H2=>U p<|aj<|Z ⟨some (b2,0),p,H2⟩
def jl (a0:Ptr) (a1:Int) (K:(an × Bool)->Hp->Prop) (s1:Bool):Hp->Prop:=br s1 ( K ((⟨0,0,0⟩:an),false)) ( nn a0 fun q26=>gd (0 <= a1/\a1 < 8)<|ld (q26.1,q26.2 + 0 + Int.toNat a1 * 3) an.C fun x29=>K (x29,true))
def uQ (a0:Ptr) (a1:Int) (K:(an × Bool)->Hp->Prop):Hp->Prop:=br (!(a0.isNone || (!(bB a1)))) ( nn a0 fun q16=>gd (0 <= a1/\a1 < 8)<|ld (q16.1,q16.2 + 0 + Int.toNat a1 * 3 + 2) (cI .i64) fun x20=>jl a0 a1 K (x20 == 0)) ( jl a0 a1 K true)
theorem sim_table_Table_At (a0:Ptr) (a1:Int) {K:(an × Bool)->Hp->Prop} {h:Hp} (H:uQ a0 a1 K h):cl prog fy [(pv a0),(.int .i64 a1)] cM K h:=z_i func135 p p fun _=>O<|aa<|aO (l:=an.C (⟨0,0,0⟩:an)) gq p p fun b4=>U p<|am<|eC (jl a0 a1 K) (fun s1=>[(0,(pv a0)),(1,(.int .i64 a1)),(4,(.pointer (some ⟨b4,0,none⟩))),(22,(.bool s1))]) (fun s1=>[bx b4 79 (an.C (⟨0,0,0⟩:an))]) (aq<|M p<|J (cA underlying161 p)<|M p<|W p p (aL _) (fun g10=>wv<|ai p)<|dh (vs:=[(.int .i64 a1)]) p p p (aL _) (fun g11=>bv<|vO a1 _) en_156 (fun g11=>aU (aG p g11) bX) p<|W p p (aL _) (fun g12=>wv<|cy<|aG p g12)<|J (dy p p)<|M p<|W p p (aL _) (fun g13=>wv<|ai p)<|W p p (aL _) (fun g14=>wv<|ai p)<|bU H (fun k16 H17=>bK H17 fun q16 e18 H19=>G (F<|bO k16)<|z_p (aK<|aJ (aG p k16)<|ar e18)<|G (F<|bO k16)<|z_p (ah kZ p)<|iM H19 fun h20 H21=>G (F<|bO k16)<|z_p (bC yJ p (aG p k16) h20)<|G (F<|bO k16)<|z_p (ah fd p)<|G (F<|bO k16)<|aW H21 ba p (fun _=>p) p fun x20 H22=>G (F<|bO k16)<|z_p (bP p p)<|J (au p (bO k16) p)<|ae<|cE (x20 == 0) H22 (.cons p<|.cons p<|.cons p<|.cons p<|.nil _)<|.cons_cons _ .slnil) fun k16 H17=>Y (bL<|bq k16)<|Y (bL<|bq k16)<|Y (bL<|bq k16)<|Y (bL<|bq k16)<|Y (bL<|bq k16)<|Y (bL<|bq k16)<|J (aS p (bq k16) p)<|ae<|cE true H17 (.cons p<|.cons p<|.cons p<|.cons p<|.nil _)<|.cons_cons _ .slnil) fun s1 _ H2=>ax p H2 (fun k3 H4=>O<|J (bd (vs:=[]) p nP)<|aa<|aQ (k:=0) (vs:=an.C (⟨0,0,0⟩:an)) eq p p p p p p p<|U p<|aj<|bD (bW p (bG (k:=0) p fU p p)<|cg p) ⟨((⟨0,0,0⟩:an),false),p,H4⟩) fun k3 H4=>ap<|O<|M p<|M p<|bK H4 fun q26 e5 H6=>J (aK<|aJ p<|ar e5)<|J (ah kZ p)<|iM H6 fun h7 H8=>J (bC yJ p p h7)<|aa<|hO H8 fU p (fun _=>p) p fun x29 H9=>aa<|aQ (k:=0) (vs:=an.C x29) eq p p p p p p p<|U p<|aj<|bD (bW p (bG (k:=0) p fU p p)<|cg p) ⟨(x29,true),p,H9⟩
def qh (a0:Ptr) (a1:Int) (a2:an) (K:Int->Hp->Prop):Hp->Prop:=br a0.isNone ( K 10) ( br (((!(fq a2).2) || (a2.fBa == 0)) || (!(bB a1))) ( K 2) ( nn a0 fun q30=>gd (0 <= a1/\a1 < 8)<|ld (q30.1,q30.2 + 0 + Int.toNat a1 * 3 + 2) (cI .i64) fun x34=>br (x34 != 0) ( K 4) ( st (q30.1,q30.2 + 0 + Int.toNat a1 * 3) (an.C a2)<|K 0)))
theorem xK (a0:Ptr) (a1:Int) (a2:an) {K:Int->Hp->Prop} {h:Hp} (H:qh a0 a1 a2 K h):cl prog eJ [(pv a0),(.int .i64 a1),(.agg (an.C a2).toArray)] bj K h:=z_i func112 p p fun _=>O<|aa<|cD (l:=an.C a2) p p p fun b5=>U p<|am<|O<|M p<|J (cA underlying161 p)<|ae<|ax p H (fun k1 H2=>O<|U p<|aj<|Z ⟨10,p,H2⟩) fun k1 H2=>ap<|am<|O<|bi (bH (k:=0) fU p p p p) p<|aa<|cH (vs:=[(.agg (an.C a2).toArray)]) (bv<|ct_pte_Put a2 _) en_155 p p<|M p<|J (al p p)<|J (al p p)<|J (av p)<|U p<|O<|M p<|J (cy p)<|M p<|W p p (aL _) (fun g3=>wv<|ah fd p)<|W p p (aL _) (fun g4=>cv<|bc (k:=0) ba (aG p g4) p p)<|W p p (aL _) (fun g5=>wv<|bP (aG p g5) p)<|J (dy p p)<|M p<|W p p (aL _) (fun g6=>wv<|ai p)<|dh (vs:=[(.int .i64 a1)]) p p p (aL _) (fun g7=>bv<|vO a1 _) en_156 (fun g7=>aU (aG p g7) bX) p<|W p p (aL _) (fun g8=>wv<|cy<|aG p g8)<|J (dy p p)<|ae<|ax p H2 (fun k9 H10=>O<|U p<|aj<|Z ⟨2,p,H10⟩) fun k9 H10=>ap<|am<|O<|M p<|M p<|bK H10 fun q30 e11 H12=>J (aK<|aJ p<|ar e11)<|J (ah kZ p)<|iM H12 fun h13 H14=>J (bC yJ p p h13)<|J (ah fd p)<|aa<|aW H14 ba p (fun _=>p) p fun x34 H15=>J (qz p p)<|ae<|ax p H15 (fun k16 H17=>O<|U p<|aj<|Z ⟨4,p,H17⟩) fun k16 H17=>ap<|am<|bn (n:=7) [bx b5 79 (an.C a2)] ck p (.cons_cons _ .slnil)<|V 0 p (ai<|aJ p<|ar e11)<|V 1 p (ai p)<|z_E 2 p (eP (k:=0) fU p p p p)<|V 3 p (aK p)<|V 4 p (ah kZ p)<|V 5 p (bC yJ p p h13)<|I 6 p<|di eq p p p p p H17 fun _ H18=>⟨.cons_cons _ .slnil,aR (by kernel_rfl)<|O<|U p<|aj<|Z ⟨0,p,H18⟩⟩
def qg (a0:Ptr) (a1:Int) (K:(an × Int)->Hp->Prop):Hp->Prop:=br a0.isNone ( K ((⟨0,0,0⟩:an),10)) ( br (!(bB a1)) ( K ((⟨0,0,0⟩:an),2)) ( nn a0 fun q19=>gd (0 <= a1/\a1 < 8)<|ld (q19.1,q19.2 + 0 + Int.toNat a1 * 3 + 2) (cI .i64) fun x23=>br (x23 == 0) ( K ((⟨0,0,0⟩:an),3)) ( ld (q19.1,q19.2 + 0 + Int.toNat a1 * 3) an.C fun x31=>st (q19.1,q19.2 + 0 + Int.toNat a1 * 3) (an.C (⟨0,0,0⟩:an))<|K (x31,0))))
theorem xJ (a0:Ptr) (a1:Int) {K:(an × Int)->Hp->Prop} {h:Hp} (H:qg a0 a1 K h):cl prog js [(pv a0),(.int .i64 a1)] jR K h:=z_i func128 p p fun _=>O<|aa<|aO (l:=an.C (⟨0,0,0⟩:an)) gq p p fun b4=>U p<|am<|aw<|O<|M p<|J (cA underlying161 p)<|U p<|ax p H (fun k1 H2=>O<|J (bd (vs:=[]) p nP)<|aa<|aQ (k:=0) (vs:=an.C (⟨0,0,0⟩:an)) eq p p p p p p p<|U p<|aj<|bD (bW p (bG (k:=0) p fU p p)<|cg p) ⟨((⟨0,0,0⟩:an),10),p,H2⟩) fun k1 H2=>O<|M p<|aa<|cH (vs:=[(.int .i64 a1)]) (bv<|vO a1 _) en_156 p p<|J (cy p)<|U p<|ax p H2 (fun k3 H4=>O<|J (bd (vs:=[]) p nP)<|aa<|aQ (k:=0) (vs:=an.C (⟨0,0,0⟩:an)) eq p p p p p p p<|U p<|aj<|bD (bW p (bG (k:=0) p fU p p)<|cg p) ⟨((⟨0,0,0⟩:an),2),p,H4⟩) fun k3 H4=>O<|M p<|M p<|bK H4 fun q19 e5 H6=>J (aK<|aJ p<|ar e5)<|J (ah kZ p)<|iM H6 fun h7 H8=>J (bC yJ p p h7)<|J (ah fd p)<|aa<|aW H8 ba p (fun _=>p) p fun x23 H9=>J (bP p p)<|U p<|ax p H9 (fun k10 H11=>O<|J (bd (vs:=[]) p nP)<|aa<|aQ (k:=0) (vs:=an.C (⟨0,0,0⟩:an)) eq p p p p p p p<|U p<|aj<|bD (bW p (bG (k:=0) p fU p p)<|cg p) ⟨((⟨0,0,0⟩:an),3),p,H11⟩) fun k10 H11=>ap<|O<|M (aJ p<|ar e5)<|M p<|J (aK p)<|J (ah kZ p)<|J (bC yJ p p h7)<|aa<|hO H11 fU p (fun _=>p) p fun x31 H12=>aa<|aO (l:=an.C (⟨0,0,0⟩:an)) gq p p fun b6=>aa<|aQ (k:=0) (vs:=an.C x31) eq p p p p p p p<|ae<|O<|M (aJ p<|ar e5)<|M p<|J (bd (vs:=[]) p nP)<|J (aK p)<|J (ah kZ p)<|J (bC yJ p p h7)<|aa<|di eq p p p p p H12 fun _ H13=>ae<|O<|bi (bH (k:=0) fU p p p p) p<|aa<|aQ (k:=1) (vs:=an.C x31) eq p p p p p p p<|U p<|aj<|bD (bW p (bG (k:=1) p fU p p)<|cg p) ⟨(x31,0),p,H13⟩
def pb (a1:Int) (K:Sl->Hp->Prop) (v13:(List Value)) (Rec8:(Sl × Int)->Hp->Prop) (s7:Sl × Int):Hp->Prop:=br (decide (s7.2 < 8)) ( hpv prog (Instr.index uN (.agg v13.toArray) (.int .i64 s7.2)) xx fun (v17:an)=>br ((v17.fBa != 0) && (v17.fDa == a1)) ( hpv prog (Instr.buildSlice dU 1 #[(0,(.int .i64 s7.2))]) cC fun (v29:Sl)=>hpv prog (Builtin.append_ #[dU,dU] dU #[(sv s7.1),(sv v29)]) cC fun (v30:Sl)=>Rec8 (v30,(i64.wrap (s7.2 + 1)))) ( Rec8 (s7.1,(i64.wrap (s7.2 + 1))))) ( K s7.1)
def uP (a0:Ptr) (a1:Int) (K:Sl->Hp->Prop):Hp->Prop:=br a0.isNone ( K (⟨none,0,0,none⟩:Sl)) ( nn a0 fun q11=>hpv prog (Instr.loadAt uN (.pointer (some ⟨q11.1,q11.2 + 0,none⟩))) encL fun (v13:(List Value))=>Lp (pb a1 K v13) ((⟨none,0,0,none⟩:Sl),0))
theorem sim_table_Table_By (a0:Ptr) (a1:Int) {K:Sl->Hp->Prop} {h:Hp} (H:uP a0 a1 K h):cl prog mH [(pv a0),(.int .i64 a1)] cC K h:=z_i func176 p p fun _=>O<|U p<|am<|O<|M p<|J (cA underlying161 p)<|ae<|ax p H (fun k1 H2=>O<|U p<|aj<|Z ⟨(⟨none,0,0,none⟩:Sl),p,H2⟩) fun k1 H2=>ap<|O<|U p<|am<|O<|M p<|bK H2 fun q11 e3 H4=>J (aK<|aJ p<|ar e3)<|J (ah kZ p)<|aa<|aV H4 (x_load p) p fun v13 _ H6=>M p<|ae<|aw<|bz (step:=pb a1 K v13) (fun s7=>[(1,(.int .i64 a1)),(5,(sv s7.1)),(13,(.agg v13.toArray)),(14,(.int .i64 s7.2))]) (fun s7=>[]) H6 (.cons p<|.cons p<|.cons p<|.cons p<|.nil _) .slnil fun Rec8 s7 _ H9=>O<|J (cj p p)<|ae<|am<|ax p H9 (fun k10 H11=>ap<|am<|aw<|O<|M p<|aa<|aV H11 (x_index p p) p fun v17 _ H12=>aa<|aO (l:=an.C (⟨0,0,0⟩:an)) gq p p fun b7=>J (av p)<|aa<|aQ (k:=0) (vs:=an.C v17) eq p p p p p p p<|ae<|O<|J (ah fd p)<|bi (bc (k:=0) ba p p p) p<|J (qz p p)<|M p<|W p p (ay _) (fun g13=>wv<|ah ul p)<|W p p (ay _) (fun g14=>cv<|bc (k:=0) ba (aG p g14) p p)<|W p p (ay _) (fun g15=>wv<|ai p)<|W p p (ay _) (fun g16=>wv<|bP (aG p g16)<|aG p g16)<|J (bQ p p)<|ae<|ax p H12 (fun k17 H18=>aq<|M p<|M p<|aa<|aV H18 (bE (vs:=[(.int .i64 s7.2)]) p) p fun v29 _ H19=>aa<|aV H19 (dT p p) p fun v30 _ H20=>U p<|aq<|J (bk p p)<|M p<|ae<|cF (v30,(i64.wrap (s7.2 + 1))) H20 (.cons p<|.cons p<|.cons p<|.cons p<|.nil _)<|.cons _ .slnil) fun k17 H18=>ap<|aq<|J (bk p p)<|M p<|ae<|cF (s7.1,(i64.wrap (s7.2 + 1))) H18 (.cons p<|.cons p<|.cons p<|.cons p<|.nil _)<|.cons _ .slnil) fun k10 H11=>bh<|O<|M p<|U p<|aj<|Z ⟨s7.1,p,H11⟩
def pq (a0:Ptr) (a1:Int) (a2:Int) (K:Int->Hp->Prop):Hp->Prop:=br a0.isNone ( K 10) ( br ((!(bB a1)) || (!(ci a2))) ( K 2) ( nn a0 fun q22=>gd (0 <= a1/\a1 < 8)<|ld (q22.1,q22.2 + 0 + Int.toNat a1 * 3 + 2) (cI .i64) fun x26=>br (x26 == 0) ( K 3) ( st (q22.1,q22.2 + 0 + Int.toNat a1 * 3 + 2) [.int .i64 a2]<|K 0)))
theorem wB (a0:Ptr) (a1:Int) (a2:Int) {K:Int->Hp->Prop} {h:Hp} (H:pq a0 a1 a2 K h):cl prog lh [(pv a0),(.int .i64 a1),(.int .i64 a2)] bj K h:=z_i func178 p p fun _=>O<|U p<|am<|aw<|O<|M p<|J (cA underlying161 p)<|U p<|ax p H (fun k1 H2=>O<|U p<|aj<|Z ⟨10,p,H2⟩) fun k1 H2=>O<|M p<|aa<|cH (vs:=[(.int .i64 a1)]) (bv<|vO a1 _) en_156 p p<|J (cy p)<|M p<|W p p (aL _) (fun g3=>wv<|ai p)<|dh (vs:=[(.int .i64 a2)]) p p p (aL _) (fun g4=>bv<|ra a2 _) en_166 (fun g4=>aU (aG p g4) bX) p<|W p p (aL _) (fun g5=>wv<|cy<|aG p g5)<|J (dy p p)<|U p<|ax p H2 (fun k6 H7=>O<|U p<|aj<|Z ⟨2,p,H7⟩) fun k6 H7=>O<|M p<|M p<|bK H7 fun q22 e8 H9=>J (aK<|aJ p<|ar e8)<|J (ah kZ p)<|iM H9 fun h10 H11=>J (bC yJ p p h10)<|J (ah fd p)<|aa<|aW H11 ba p (fun _=>p) p fun x26 H12=>J (bP p p)<|U p<|ax p H12 (fun k13 H14=>O<|U p<|aj<|Z ⟨3,p,H14⟩) fun k13 H14=>ap<|O<|M (aJ p<|ar e8)<|M p<|M p<|J (aK p)<|J (ah kZ p)<|J (bC yJ p p h10)<|J (ah fd p)<|aa<|di lL p p p p p H14 fun _ H15=>ae<|O<|U p<|aj<|Z ⟨0,p,H15⟩
end
section
open Go Mb
abbrev Pte:=an
theorem jO (p:Pte):p.C.length = 3:=rfl
abbrev dn:Pte:=⟨0,0,0⟩
def de (x:Ptr) (ps:List Pte):As:=fun h=>∃ b:Nat,(x = some (b,0)/\ps.length = 8)/\aB [blk b kW ([]++(ps.flatMap an.C++[]))] h
theorem table_op {x:Ptr} {ps:List Pte} {l:List As} {h:Hp} (s0:aB (de x ps::l) h):∃ b,x = some (b,0)/\ps.length = 8/\aB (blk b kW ([]++(ps.flatMap an.C++[]))::l) h:=by
 obtain ⟨b,⟨hx,hb⟩,st⟩:=op_ s0
 exact ⟨b,hx,hb,st⟩
theorem jk {b:Nat} {ps:List Pte} {l:List As} {h:Hp} (hb:ps.length = 8) (st:aB (blk b kW ([]++(ps.flatMap an.C++[]))::l) h):aB (de (some (b,0)) ps::l) h:=cl_ b ⟨rfl,hb⟩ st
namespace Table
def at_ (ps:List Pte) (i:Int):Pte:=ps.getD i.toNat dn
def get (ps:List Pte) (i:Int):Pte × Bool:=if bB i = true/\(at_ ps i).fBa ≠ 0 then (at_ ps i,true) else (dn,false)
def insert (ps:List Pte) (i:Int) (p:Pte):Int × List Pte :=
 if (fq p).2 = false\/p.fBa = 0\/bB i = false then (2,ps) else if (at_ ps i).fBa ≠ 0 then (4,ps) else (0,ps.set i.toNat p)
def protect (ps:List Pte) (i r:Int):Int × List Pte :=
 if bB i = false\/ci r = false then (2,ps) else if (at_ ps i).fBa = 0 then (3,ps) else (0,ps.set i.toNat { at_ ps i with fBa:=r })
def remove (ps:List Pte) (i:Int):(Pte × Int) × List Pte :=
 if bB i = false then ((dn,2),ps) else if (at_ ps i).fBa = 0 then ((dn,3),ps) else ((at_ ps i,0),ps.set i.toNat dn)
def byFrom (s:Int):List Pte->Int->List Int
 | [],_=>[]
 | p::ps,i=>if p.fBa ≠ 0/\p.fDa = s then i::byFrom s ps (i + 1) else byFrom s ps (i + 1)
def by_ (ps:List Pte) (s:Int):List Int:=byFrom s ps 0
end Table
theorem nD {i:Int} (h:bB i = true):∃ n:Nat,i = n/\n < 8:=by
 unfold bB at h
 simp at h
 exact ⟨i.toNat,by omega,by omega⟩
theorem table_new_run (K:Value->Hp->Prop) (h:Hp):hp prog (Instr.build kW #[]) K h = K (.agg ((replicate 8 dn).flatMap an.C).toArray) h:=by kernel_rfl
theorem pf:Sp prog lX [] iO [] (fun r=>aB [de r (replicate 8 dn)]):=by
 intro h st
 refine sim_table_New ?_
 unfold sh_table_New
 refine ⟨?_⟩
 rw [table_new_run]
 refine ⟨_,rfl,?_⟩
 refine pG st fun b h' s1=>?_
 exact jk rfl s1
theorem kR (x:Ptr) (ps:List Pte) (i:Int) (p:Pte):Sp prog eJ [pv x,.int .i64 i,.agg p.C.toArray] bj [de x ps] (fun r=>pa_ (r = (Table.insert ps i p).1) [de x (Table.insert ps i p).2]):=by
 intro h s0
 obtain ⟨b,rfl,hb,st⟩:=table_op s0
 refine xK _ _ _ ?_
 unfold qh
 refine dO rfl ?_
 refine aY (fun k=>?_) (fun k=>?_)
 ·have k':(fq p).2 = false\/p.fBa = 0\/bB i = false:=by simpa [or_assoc] using k
  have e:Table.insert ps i p = (2,ps):=if_pos k'
  rw [e]
  exact aZ rfl (jk hb st)
 ·have k':¬ ((fq p).2 = false\/p.fBa = 0\/bB i = false):=by simp at k; simp [k]
  obtain ⟨n,rfl,hn⟩:=nD (i:=i) (by simp at k'; exact k'.2.2)
  have hn':n < ps.length:=by omega
  have hat:Table.at_ ps n = ps[n]:=by simp [Table.at_,hn']
  refine cL ⟨⟨by omega,by omega⟩,?_⟩
  refine ld_a (j:=0) (i:=n) (k:=2) ps[n].fBa jO st rfl (by simp) (aE hn') (c1 rfl rfl) ?_
  refine aY (fun k2=>?_) (fun k2=>?_)
  ·have k2':(Table.at_ ps n).fBa ≠ 0:=by rw [hat]; simpa using k2
   have e:Table.insert ps n p = (4,ps):=by unfold Table.insert; rw [if_neg k',if_pos k2']
   rw [e]
   exact aZ rfl (jk hb st)
  ·have k2':¬ (Table.at_ ps n).fBa ≠ 0:=by rw [hat]; simpa using k2
   have e:Table.insert ps n p = (0,ps.set n p):=by unfold Table.insert; rw [if_neg k',if_neg k2']; rfl
   rw [e]
   refine st_a (j:=0) (i:=n) (k:=0) p jO st rfl (by simp) (aE hn') (by simp [jO]) rfl fun h2 s2=>?_
   exact aZ rfl (jk (by simpa using hb) s2)
theorem sp_table_Protect (x:Ptr) (ps:List Pte) (i r:Int):Sp prog lh [pv x,.int .i64 i,.int .i64 r] bj [de x ps] (fun v=>pa_ (v = (Table.protect ps i r).1) [de x (Table.protect ps i r).2]):=by
 intro h s0
 obtain ⟨b,rfl,hb,st⟩:=table_op s0
 refine wB _ _ _ ?_
 unfold pq
 refine dO rfl ?_
 refine aY (fun k=>?_) (fun k=>?_)
 ·have k':bB i = false\/ci r = false:=by simpa using k
  have e:Table.protect ps i r = (2,ps):=if_pos k'
  rw [e]
  exact aZ rfl (jk hb st)
 ·have k':¬ (bB i = false\/ci r = false):=by simp at k; simp [k]
  obtain ⟨n,rfl,hn⟩:=nD (i:=i) (by simp at k'; exact k'.1)
  have hn':n < ps.length:=by omega
  have hat:Table.at_ ps n = ps[n]:=by simp [Table.at_,hn']
  refine cL ⟨⟨by omega,by omega⟩,?_⟩
  refine ld_a (j:=0) (i:=n) (k:=2) ps[n].fBa jO st rfl (by simp) (aE hn') (c1 rfl rfl) ?_
  refine aY (fun k2=>?_) (fun k2=>?_)
  ·have k2':(Table.at_ ps n).fBa = 0:=by rw [hat]; simpa using k2
   have e:Table.protect ps n r = (3,ps):=by unfold Table.protect; rw [if_neg k',if_pos k2']
   rw [e]
   exact aZ rfl (jk hb st)
  ·have k2':¬ (Table.at_ ps n).fBa = 0:=by rw [hat]; simpa using k2
   have e:Table.protect ps n r = (0,ps.set n { ps[n] with fBa:=r }):=by unfold Table.protect; rw [if_neg k',if_neg k2',hat]; rfl
   rw [e]
   refine st_a (j:=0) (i:=n) (k:=2) { ps[n] with fBa:=r } jO st rfl (by simp) (aE hn') (by simp) rfl fun h2 s2=>?_
   exact aZ rfl (jk (by simpa using hb) s2)
theorem sp_table_Remove (x:Ptr) (ps:List Pte) (i:Int):Sp prog js [pv x,.int .i64 i] jR [de x ps] (fun v=>pa_ (v = (Table.remove ps i).1) [de x (Table.remove ps i).2]):=by
 intro h s0
 obtain ⟨b,rfl,hb,st⟩:=table_op s0
 refine xJ _ _ ?_
 unfold qg
 refine dO rfl ?_
 refine aY (fun k=>?_) (fun k=>?_)
 ·have k':bB i = false:=by simpa using k
  have e:Table.remove ps i = ((dn,2),ps):=if_pos k'
  rw [e]
  exact aZ rfl (jk hb st)
 ·have k':¬ (bB i = false):=by simp at k; simp [k]
  obtain ⟨n,rfl,hn⟩:=nD (i:=i) (by simp at k'; exact k')
  have hn':n < ps.length:=by omega
  have hat:Table.at_ ps n = ps[n]:=by simp [Table.at_,hn']
  refine cL ⟨⟨by omega,by omega⟩,?_⟩
  refine ld_a (j:=0) (i:=n) (k:=2) ps[n].fBa jO st rfl (by simp) (aE hn') (c1 rfl rfl) ?_
  refine aY (fun k2=>?_) (fun k2=>?_)
  ·have k2':(Table.at_ ps n).fBa = 0:=by rw [hat]; simpa using k2
   have e:Table.remove ps n = ((dn,3),ps):=by unfold Table.remove; rw [if_neg k',if_pos k2']
   rw [e]
   exact aZ rfl (jk hb st)
  ·have k2':¬ (Table.at_ ps n).fBa = 0:=by rw [hat]; simpa using k2
   have e:Table.remove ps n = ((ps[n],0),ps.set n dn):=by unfold Table.remove; rw [if_neg k',if_neg k2',hat]; rfl
   rw [e]
   refine ld_a (j:=0) (i:=n) (k:=0) ps[n] jO st rfl (by simp) (aE hn') (by simp) ?_
   refine st_a (j:=0) (i:=n) (k:=0) dn jO st rfl (by simp) (aE hn') (by simp [jO]) rfl fun h2 s2=>?_
   exact aZ rfl (jk (by simpa using hb) s2)
theorem oF (x:Ptr) (ps:List Pte) (i:Int):Sp prog fy [pv x,.int .i64 i] cM [de x ps] (fun v=>pa_ (v = Table.get ps i) [de x ps]):=by
 intro h s0
 obtain ⟨b,rfl,hb,st⟩:=table_op s0
 refine sim_table_Table_At _ _ ?_
 unfold uQ
 refine aY (fun k=>?_) (fun k=>?_)
 ·have k':bB i = true:=by simpa using k
  obtain ⟨n,rfl,hn⟩:=nD k'
  have hn':n < ps.length:=by omega
  have hat:Table.at_ ps n = ps[n]:=by simp [Table.at_,hn']
  refine cL ⟨⟨by omega,by omega⟩,?_⟩
  refine ld_a (j:=0) (i:=n) (k:=2) ps[n].fBa jO st rfl (by simp) (aE hn') (c1 rfl rfl) ?_
  unfold jl
  refine aY (fun k2=>?_) (fun k2=>?_)
  ·have k2':(Table.at_ ps n).fBa = 0:=by rw [hat]; simpa using k2
   have e:Table.get ps n = (dn,false):=if_neg (fun hh=>hh.2 k2')
   rw [e]
   exact aZ rfl (jk hb st)
  ·have k2':¬ (Table.at_ ps n).fBa = 0:=by rw [hat]; simpa using k2
   have e:Table.get ps n = (ps[n],true):=by unfold Table.get; rw [if_pos ⟨k',k2'⟩,hat]
   rw [e]
   refine cL ⟨⟨by omega,by omega⟩,?_⟩
   refine ld_a (j:=0) (i:=n) (k:=0) ps[n] jO st rfl (by simp) (aE hn') (by simp) ?_
   exact aZ rfl (jk hb st)
 ·have k':¬ bB i = true:=by simpa using k
  have e:Table.get ps i = (dn,false):=if_neg (fun hh=>k' hh.1)
  rw [e]
  unfold jl
  exact eD rfl (aZ rfl (jk hb st))
theorem by_append (s:Int):∀ (ps:List Pte) (i:Int) (p:Pte),Table.byFrom s (ps++[p]) i = Table.byFrom s ps i++(if p.fBa ≠ 0/\p.fDa = s then [i + ps.length] else [])
 | [],i,p=>by simp only [List.nil_append,Table.byFrom]; split <;> simp
 | y::ps,i,p=>by
  simp only [cons_append,Table.byFrom]
  rw [by_append s ps (i + 1) p]
  have e:i + 1 + (ps.length:Int) = i + ((y::ps).length:Int):=by simp; omega
  rw [e]
  split <;> simp
theorem by_len (s:Int):∀ (ps:List Pte) (i:Int),(Table.byFrom s ps i).length <= ps.length
 | [],_=>Nat.le_refl _
 | p::ps,i=>by unfold Table.byFrom; have:=by_len s ps (i + 1); split <;> simp <;> omega
theorem sp_table_By (x:Ptr) (ps:List Pte) (s:Int):Sp prog mH [pv x,.int .i64 s] cC [de x ps] (fun r=>aB [vI r (Table.by_ ps s),de x ps]):=by
 intro h s0
 obtain ⟨b,rfl,hb,st⟩:=table_op s0
 refine sim_table_Table_By _ _ ?_
 unfold uP
 refine dO rfl (cL ?_)
 obtain ⟨h1,a,sub⟩:=dV (i:=0) rfl st
 have hfl:(ps.flatMap an.C).length = 24:=by rw [dY jO,hb]
 refine loadAt_v (r:=ps.flatMap an.C) (cs:=ps.flatMap an.C) agn_8_api_Pte ⟨_,_,_,sub _ _ a,fun i v hv=>by simpa using hv⟩ hfl rfl ?_
 refine Lp.intro (fun (z:Sl × Int) h=>∃ n:Nat,z.2 = n/\n <= 8/\aB [vI z.1 (Table.byFrom s (ps.take n) 0),de (some (b,0)) ps] h) (fun (z:Sl × Int) _=>8 - z.2.toNat) ⟨0,rfl,zero_le _,fX (jk hb st)⟩ ?_
 rintro ⟨z,i⟩ h ⟨n,rfl,hn,s1⟩
 unfold pb
 refine aY (fun k=>?_) (fun k=>?_)
 ·have hlt:n < 8:=by have:=of_decide_eq_true k; omega
  have hn':n < ps.length:=by omega
  have hw:i64.wrap ((n:Int) + 1) = ((n + 1:Nat):Int):=by rw [bm (by omega) (by omega)]; rfl
  have ht:ps.take (n + 1) = ps.take n++[ps[n]]:=by simp
  have hlen:((ps.take n).length:Int) = n:=by simp; omega
  refine index_v (enc:=an.C) (m:=3) arn_8_api_Pte age_8_api_Pte jO (fun _=>rfl) hb (aE hn') ?_
  refine aY (fun k2=>?_) (fun k2=>?_)
  ·have k2':ps[n].fBa ≠ 0/\ps[n].fDa = s:=by simpa using k2
   refine xw s1 (i:=0) rfl ?_ fun v h' s2=>?_
   ·have:=by_len s (ps.take n) 0; simp at this ⊢; omega
   ·rw [hw]
    refine ⟨⟨n + 1,rfl,hlt,?_⟩,by simp; omega⟩
    rw [ht,by_append,if_pos k2',hlen,zero_add]
    exact s2
  ·have k2':¬ (ps[n].fBa ≠ 0/\ps[n].fDa = s):=by simpa using k2
   rw [hw]
   refine ⟨⟨n + 1,rfl,hlt,?_⟩,by simp; omega⟩
   rw [ht,by_append,if_neg k2',append_nil]
   exact s1
 ·have:n = 8:=by have:=of_decide_eq_false k; omega
  subst this
  rw [show ps.take 8 = ps from by rw [← hb]; exact take_length] at s1
  exact s1
end
section
open Go
namespace Mb
def wZ {σ α:Type} (A:σ->α->As):List σ->List α->List As
 | p::ps,x::xs=>A p x::wZ A ps xs
 | _,_=>[]
section
variable {σ α:Type} {A:σ->α->As}
theorem objs_get:∀ {ps:List σ} {xs:List α} {i:Nat} {p:σ} {x:α},ps[i]? = some p->xs[i]? = some x->(wZ A ps xs)[i]? = some (A p x)
 | [],_,_,_,_,h,_=>by simp at h
 | _::_,[],_,_,_,_,h=>by simp at h
 | p::ps,x::xs,0,_,_,h1,h2=>by simp at h1 h2; subst h1; subst h2; rfl
 | p::ps,x::xs,i + 1,_,_,h1,h2=>by simpa [wZ] using objs_get (ps:=ps) (xs:=xs) (i:=i) (by simpa using h1) (by simpa using h2)
theorem objs_set:∀ {ps:List σ} {xs:List α} {i:Nat} {p:σ} {x:α},ps[i]? = some p->(wZ A ps xs).set i (A p x) = wZ A ps (xs.set i x)
 | [],_,_,_,_,h=>by simp at h
 | p::ps,[],i,_,_,_=>by simp [wZ]
 | p::ps,y::xs,0,_,_,h=>by simp at h; subst h; rfl
 | p::ps,y::xs,i + 1,_,_,h=>by simp only [wZ,List.set_cons_succ]; rw [objs_set (ps:=ps) (xs:=xs) (i:=i) (by simpa using h)]
theorem objs_set2:∀ {ps:List σ} {xs:List α} {i:Nat} {p:σ} {x:α},i < xs.length->(wZ A ps xs).set i (A p x) = wZ A (ps.set i p) (xs.set i x)
 | [],_,_,_,_,_=>by simp [wZ]
 | p::ps,[],i,_,_,h=>by simp at h
 | p::ps,y::xs,0,_,_,_=>rfl
 | p::ps,y::xs,i + 1,_,_,h=>by simp only [wZ,List.set_cons_succ]; rw [objs_set2 (ps:=ps) (xs:=xs) (i:=i) (by simpa using h)]
theorem objs_append (p:σ) (x:α):∀ {ps:List σ} {xs:List α},ps.length = xs.length->wZ A (ps++[p]) (xs++[x]) = wZ A ps xs++[A p x]
 | [],[],_=>rfl
 | [],_::_,h=>by simp at h
 | _::_,[],h=>by simp at h
 | a::ps,b::xs,h=>by simp only [cons_append,wZ]; rw [objs_append p x (by simpa using h)]
theorem objs_len:∀ {ps:List σ} {xs:List α},ps.length = xs.length->(wZ A ps xs).length = xs.length
 | [],[],_=>rfl
 | [],_::_,h=>by simp at h
 | _::_,[],h=>by simp at h
 | a::ps,b::xs,h=>by simp only [wZ,List.length_cons]; rw [objs_len (by simpa using h)]
def all (A:σ->α->As) (ps:List σ) (xs:List α):As:=aB (wZ A ps xs)
def but (A:σ->α->As) (ps:List σ) (xs:List α) (i:Nat):As:=aB ((wZ A ps xs).eraseIdx i)
variable {l:List As} {h:Hp} {ps:List σ} {xs:List α}
theorem star_shut {m:List As} (s:aB (m++l) h):aB (aB m::l) h:=by
 obtain ⟨h1,h2,d,e,s1,s2⟩:=fx.1 s
 exact ⟨h1,h2,d,e,s1,s2⟩
theorem jC {i:Nat} {p:σ} {x:α} (hp:ps[i]? = some p) (hx:xs[i]? = some x) (s:aB (all A ps xs::l) h):aB (A p x::but A ps xs i::l) h:=by
 obtain ⟨h1,h2,d,e,a,s'⟩:=s
 have:=fj (objs_get (A:=A) hp hx) a
 obtain ⟨h3,h4,d',e',a',s4⟩:=this
 subst e'
 obtain ⟨d1,d2⟩:=Dj.of_un_left d
 exact ⟨h3,un h4 h2,Dj.un_right d' d1,by rw [e,nz],a',h4,h2,d2,rfl,s4,s'⟩
theorem wx {i:Nat} {p:σ} {y:α} (hp:ps[i]? = some p) (hi:i < xs.length) (hl:ps.length = xs.length) (s:aB (A p y::but A ps xs i::l) h):aB (all A ps (xs.set i y)::l) h:=by
 obtain ⟨h1,h2,d,e,a,h3,h4,d',e',b,s'⟩:=s
 subst e'
 obtain ⟨d1,d2⟩:=Dj.of_un_right d
 refine ⟨un h1 h3,h4,Dj.un_left d2 d',by rw [e,nz],?_,s'⟩
 have:=dP (A:=A p y) (l:=wZ A ps xs) (i:=i) (by rw [objs_len hl]; exact hi) ⟨h1,h3,d1,rfl,a,b⟩
 rw [objs_set hp] at this
 exact this
theorem all_in2 {i:Nat} {p:σ} {y:α} (hi:i < xs.length) (hl:ps.length = xs.length) (s:aB (A p y::but A ps xs i::l) h):aB (all A (ps.set i p) (xs.set i y)::l) h:=by
 obtain ⟨h1,h2,d,e,a,h3,h4,d',e',b,s'⟩:=s
 subst e'
 obtain ⟨d1,d2⟩:=Dj.of_un_right d
 refine ⟨un h1 h3,h4,Dj.un_left d2 d',by rw [e,nz],?_,s'⟩
 have:=dP (A:=A p y) (l:=wZ A ps xs) (i:=i) (by rw [objs_len hl]; exact hi) ⟨h1,h3,d1,rfl,a,b⟩
 rw [objs_set2 hi] at this
 exact this
theorem jm {α:Type} {xs:List α} {i:Nat} {x:α} (hx:xs[i]? = some x):xs.set i x = xs:=by
 apply List.ext_getElem?
 intro n
 rw [List.getElem?_set]
 by_cases e:i = n
 ·subst e
  obtain ⟨h1,h2⟩:=List.getElem?_eq_some_iff.1 hx
  simp [h1,h2]
 ·simp [e]
theorem uC {i:Nat} {p:σ} {x:α} (hp:ps[i]? = some p) (hx:xs[i]? = some x) (hl:ps.length = xs.length) (s:aB (A p x::but A ps xs i::l) h):aB (all A ps xs::l) h:=by
 have:=wx hp (List.getElem?_eq_some_iff.1 hx).1 hl s
 rwa [jm hx] at this
theorem all_nil:aB l h->aB (all A [] []::l) h:=fun s=>star_cons (fun _=>trivial) s
theorem all_push {p:σ} {x:α} (hl:ps.length = xs.length) (s:aB (A p x::all A ps xs::l) h):aB (all A (ps++[p]) (xs++[x])::l) h:=by
 refine star_shut ?_
 rw [objs_append p x hl]
 have s1:=kX (.swap _ _ _) s
 have s2:=dE s1
 exact kX (by simp) s2
end
theorem xC {A:As} {h:Hp} (a:A h):aB [A] h:=⟨h,emp,Dj.emp_right _,(un_emp _).symm,a,trivial⟩
section
variable {P:Program} {l:List As} {h:Hp} {τ:Type} {f:FuncId} {args:List Value} {enc:τ->Value} {K:τ->Hp->Prop} {i:Nat} {A:As}
theorem bS {φ:τ->Prop} {A':τ->As} (c:Sp P f args enc [A] (fun r=>pa_ (φ r) [A' r])) (hi:l[i]? = some A) (s:aB l h) (k:∀ r h',φ r->aB (l.set i (A' r)) h'->K r h'):cl P f args enc K h:=by
 obtain ⟨h1,h2,d,rfl,a,s'⟩:=fj hi s
 refine (c h1 (xC a)).frame_mono d rfl fun v h' ⟨r,hv,q⟩ dj=>⟨r,hv,?_⟩
 obtain ⟨g1,q⟩:=q
 refine k r _ g1 (dP (List.getElem?_eq_some_iff.1 hi).1 ?_)
 exact mB (l:=[A' r]++l.eraseIdx i) (by rw [append_nil]; exact fx.2 ⟨h',h2,dj,rfl,q,s'⟩)
theorem xt {B A':τ->As} (c:Sp P f args enc [A] (fun r=>aB [B r,A' r])) (hi:l[i]? = some A) (s:aB l h) (k:∀ r h',aB (B r::l.set i (A' r)) h'->K r h'):cl P f args enc K h:=by
 obtain ⟨h1,h2,d,rfl,a,s'⟩:=fj hi s
 refine (c h1 (xC a)).frame_mono d rfl fun v h' ⟨r,hv,q⟩ dj=>⟨r,hv,k r _ ?_⟩
 have s1:aB (B r::A' r::l.eraseIdx i) (un h' h2):=(fx (l:=[B r,A' r])).2 ⟨h',h2,dj,rfl,q,s'⟩
 obtain ⟨g1,g2,d2,e2,b,s2⟩:=s1
 exact ⟨g1,g2,d2,e2,b,dP (List.getElem?_eq_some_iff.1 hi).1 s2⟩
theorem cl_p {φ:τ->Prop} {B A':τ->As} (c:Sp P f args enc [A] (fun r=>pa_ (φ r) [B r,A' r])) (hi:l[i]? = some A) (s:aB l h) (k:∀ r h',φ r->aB (B r::l.set i (A' r)) h'->K r h'):cl P f args enc K h:=by
 obtain ⟨h1,h2,d,rfl,a,s'⟩:=fj hi s
 refine (c h1 (xC a)).frame_mono d rfl fun v h' ⟨r,hv,q⟩ dj=>⟨r,hv,?_⟩
 obtain ⟨g0,q⟩:=q
 refine k r _ g0 ?_
 have s1:aB (B r::A' r::l.eraseIdx i) (un h' h2):=(fx (l:=[B r,A' r])).2 ⟨h',h2,dj,rfl,q,s'⟩
 obtain ⟨g1,g2,d2,e2,b,s2⟩:=s1
 exact ⟨g1,g2,d2,e2,b,dP (List.getElem?_eq_some_iff.1 hi).1 s2⟩
theorem uJ {φ:τ->Prop} (c:Sp P f args enc [] (fun r=>pa_ (φ r) [])) (s:aB l h) (k:∀ r h',φ r->aB l h'->K r h'):cl P f args enc K h :=
 cW [] c s rfl fun r h' s1=>by
  obtain ⟨f1,s2⟩:=bt.1 s1
  exact k r h' f1 s2
theorem mY {B:τ->As} (c:Sp P f args enc [] (fun r=>aB [B r])) (s:aB l h) (k:∀ r h',aB (B r::l) h'->K r h'):cl P f args enc K h :=
 cW [] c s rfl fun r h' s1=>k r h' (dE s1)
end
end Mb
end
section
open Go Mb
def sh_caps_Tree_is (a0:Ptr) (a1:Int) (a2:Int) (K:Bool->Hp->Prop):Hp->Prop:=br (decide (a1 >= 0)) ( nn a0 fun q12=>ld (q12.1,q12.2 + 0) cS fun x14=>K (((decide (a1 < (x14.len:Int))) && (decide (a2 >= 0))) && (decide (a2 < 8)))) ( K false)
theorem sim_caps_Tree_is (a0:Ptr) (a1:Int) (a2:Int) {K:Bool->Hp->Prop} {h:Hp} (H:sh_caps_Tree_is a0 a1 a2 K h):cl prog iH [(pv a0),(.int .i64 a1),(.int .i64 a2)] aC K h:=z_i func151 p p fun _=>O<|U p<|O<|M p<|J (jF p p)<|M p<|W p p (ay _) (fun g1=>wv<|ai p)<|W p p (ay _) (fun g2=>wv<|ai p)<|bU H (fun k4 H5=>bK H5 fun q12 e6 H7=>G (F k4)<|z_p (aK<|aJ (aG p k4)<|ar e6)<|G (F k4)<|z_p (ah ir p)<|G (F k4)<|aW H7 qP p (fun _=>p) p fun x14 H8=>G (F k4)<|z_p (dA p underlying206 p)<|G (F k4)<|z_p (cj (aG p k4) p)<|J (aS p k4 p)<|M p<|W p p (ay _) (fun g9=>wv<|ai p)<|W p p (ay _) (fun g10=>wv<|jF (aG p g10) p)<|J (bQ p p)<|M p<|W p p (ay _) (fun g11=>wv<|ai p)<|W p p (ay _) (fun g12=>wv<|cj (aG p g12) p)<|J (bQ p p)<|U p<|aj<|Z ⟨(((decide (a1 < (x14.len:Int))) && (decide (a2 >= 0))) && (decide (a2 < 8))),p,H8⟩) fun k4 H5=>Y (aT k4)<|Y (aT k4)<|Y (aT k4)<|Y (aT k4)<|Y (aT k4)<|J (au p k4 p)<|M p<|Y p<|Y p<|J (au p p p)<|M p<|Y p<|Y p<|J (au p p p)<|U p<|aj<|Z ⟨false,p,H5⟩
def ji (a0:Ptr) (a1:Int) (a2:Int) (K:(aD × Bool)->Hp->Prop) (s1:Bool):Hp->Prop:=br s1 ( K ((⟨0,0,0,0⟩:aD),false)) ( nn a0 fun q32=>ld (q32.1,q32.2 + 0) cS fun x34=>ix x34 a1 fun q37=>gd (0 <= a2/\a2 < 8)<|ld (q37.1,q37.2 + Int.toNat a1 * 32 + Int.toNat a2 * 4) aD.C fun x39=>K (x39,true))
def sh_caps_Tree_At (a0:Ptr) (a1:Int) (a2:Int) (K:(aD × Bool)->Hp->Prop):Hp->Prop:=br (!a0.isNone) ( cl prog iH [(pv a0),(.int .i64 a1),(.int .i64 a2)] aC fun r14=>br (!(!r14)) ( nn a0 fun q19=>ld (q19.1,q19.2 + 0) cS fun x21=>ix x21 a1 fun q24=>gd (0 <= a2/\a2 < 8)<|ld (q24.1,q24.2 + Int.toNat a1 * 32 + Int.toNat a2 * 4 + 1) (cI .i64) fun x27=>ji a0 a1 a2 K (x27 == 0)) ( ji a0 a1 a2 K true)) ( ji a0 a1 a2 K true)
theorem sim_caps_Tree_At (a0:Ptr) (a1:Int) (a2:Int) {K:(aD × Bool)->Hp->Prop} {h:Hp} (H:sh_caps_Tree_At a0 a1 a2 K h):cl prog eK [(pv a0),(.int .i64 a1),(.int .i64 a2)] cX K h:=z_i func102 p p fun _=>O<|aa<|aO (l:=aD.C (⟨0,0,0,0⟩:aD)) iP p p fun b6=>U p<|am<|eC (ji a0 a1 a2 K) (fun s1=>[(0,(pv a0)),(1,(.int .i64 a1)),(2,(.int .i64 a2)),(6,(.pointer (some ⟨b6,0,none⟩))),(29,(.bool s1))]) (fun s1=>[bx b6 36 (aD.C (⟨0,0,0,0⟩:aD))]) (aq<|M p<|J (cA underlying155 p)<|M p<|W p p (aL _) (fun g14=>wv<|ai p)<|W p p (aL _) (fun g15=>wv<|ai p)<|W p p (aL _) (fun g16=>wv<|ai p)<|bU H (fun k18 H19=>G (F<|bO k18)<|gw H19 en_151 (aU (aG p k18)<|aU (aG p k18)<|aU (aG p k18) bX) p fun r14 _ H20=>G (F<|bO k18)<|z_p (cy p)<|J (au p (bO k18) p)<|M p<|W p p (aL _) (fun g21=>wv<|ai p)<|bU H20 (fun k23 H24=>bK H24 fun q19 e25 H26=>G (F<|bO k23)<|z_p (aK<|aJ (aG p k23)<|ar e25)<|G (F<|bO k23)<|z_p (ah ir p)<|G (F<|bO k23)<|aW H26 qP p (fun _=>p) p fun x21 H27=>G (F<|bO k23)<|z_p (ai p)<|G (F<|bO k23)<|z_p (ai p)<|cq H27 fun q24 e28 h29 H30=>G (F<|bO k23)<|z_p (be pn (aJ p<|aX e28) p h29)<|iM H30 fun h31 H32=>G (F<|bO k23)<|z_p (bC rj p p h31)<|G (F<|bO k23)<|z_p (ah hG p)<|G (F<|bO k23)<|aW H32 ba p (fun _=>p) p fun x27 H33=>G (F<|bO k23)<|z_p (bP p p)<|J (au p (bO k23) p)<|ae<|cE (x27 == 0) H33 (.cons p<|.cons p<|.cons p<|.cons p<|.cons p<|.nil _)<|.cons_cons _ .slnil) fun k23 H24=>Y (bL<|bq k23)<|Y (bL<|bq k23)<|Y (bL<|bq k23)<|Y (bL<|bq k23)<|Y (bL<|bq k23)<|Y (bL<|bq k23)<|Y (bL<|bq k23)<|Y (bL<|bq k23)<|Y (bL<|bq k23)<|Y (bL<|bq k23)<|J (aS p (bq k23) p)<|ae<|cE true H24 (.cons p<|.cons p<|.cons p<|.cons p<|.cons p<|.nil _)<|.cons_cons _ .slnil) fun k18 H19=>Y (bL<|bq k18)<|Y (bL<|bq k18)<|J (aS p (bq k18) p)<|M p<|Y p<|Y p<|Y p<|Y p<|Y p<|Y p<|Y p<|Y p<|Y p<|Y p<|Y p<|J (aS p p p)<|ae<|cE true H19 (.cons p<|.cons p<|.cons p<|.cons p<|.cons p<|.nil _)<|.cons_cons _ .slnil) fun s1 _ H2=>ax p H2 (fun k3 H4=>O<|J (bd (vs:=[]) p build_36)<|aa<|aQ (k:=0) (vs:=aD.C (⟨0,0,0,0⟩:aD)) gQ p p p p p p p<|U p<|aj<|bD (bW p (bG (k:=0) p ag_36 p p)<|cg p) ⟨((⟨0,0,0,0⟩:aD),false),p,H4⟩) fun k3 H4=>ap<|O<|M p<|bK H4 fun q32 e5 H6=>J (aK<|aJ p<|ar e5)<|J (ah ir p)<|aa<|aW H6 qP p (fun _=>p) p fun x34 H7=>M p<|M p<|cq H7 fun q37 e8 h9 H10=>J (be pn (aJ p<|aX e8) p h9)<|iM H10 fun h11 H12=>J (bC rj p p h11)<|aa<|hO H12 ag_36 p (fun _=>p) p fun x39 H13=>aa<|aQ (k:=0) (vs:=aD.C x39) gQ p p p p p p p<|U p<|aj<|bD (bW p (bG (k:=0) p ag_36 p p)<|cg p) ⟨(x39,true),p,H13⟩
def vq (a0:Ptr) (a1:Int) (a2:Int) (a3:Int) (K:Int->Hp->Prop):Hp->Prop:=br a0.isNone ( K 10) ( cl prog iH [(pv a0),(.int .i64 a1),(.int .i64 a2)] aC fun r16=>br (((!r16) || (decide (a3 < 0))) || (decide (a3 >= 16))) ( K 2) ( nn a0 fun q28=>ld (q28.1,q28.2 + 0) cS fun x30=>ix x30 a1 fun q33=>gd (0 <= a2/\a2 < 8)<|ld (q33.1,q33.2 + Int.toNat a1 * 32 + Int.toNat a2 * 4 + 1) (cI .i64) fun x36=>br (x36 != 0) ( K 4) ( ld (q28.1,q28.2 + 0) cS fun x41=>ix x41 a1 fun q46=>st (q46.1,q46.2 + Int.toNat a1 * 32 + Int.toNat a2 * 4) (aD.C (⟨a3,3,(-1),0⟩:aD))<|K 0)))
theorem sim_caps_Tree_Root (a0:Ptr) (a1:Int) (a2:Int) (a3:Int) {K:Int->Hp->Prop} {h:Hp} (H:vq a0 a1 a2 a3 K h):cl prog jZ [(pv a0),(.int .i64 a1),(.int .i64 a2),(.int .i64 a3)] bj K h:=z_i func142 p p fun _=>O<|U p<|am<|aw<|O<|M p<|J (cA underlying155 p)<|U p<|ax p H (fun k1 H2=>O<|U p<|aj<|Z ⟨10,p,H2⟩) fun k1 H2=>O<|M p<|M p<|M p<|aa<|D H2 en_151 fun r16 _ H3=>J (cy p)<|M p<|W p p (aL _) (fun g4=>wv<|ai p)<|W p p (aL _) (fun g5=>wv<|cj (aG p g5) p)<|J (dy p p)<|M p<|W p p (aL _) (fun g6=>wv<|ai p)<|W p p (aL _) (fun g7=>wv<|jF (aG p g7) p)<|J (dy p p)<|U p<|ax p H3 (fun k8 H9=>O<|U p<|aj<|Z ⟨2,p,H9⟩) fun k8 H9=>O<|M p<|bK H9 fun q28 e10 H11=>J (aK<|aJ p<|ar e10)<|J (ah ir p)<|aa<|aW H11 qP p (fun _=>p) p fun x30 H12=>M p<|M p<|cq H12 fun q33 e13 h14 H15=>J (be pn (aJ p<|aX e13) p h14)<|iM H15 fun h16 H17=>J (bC rj p p h16)<|J (ah hG p)<|aa<|aW H17 ba p (fun _=>p) p fun x36 H18=>J (qz p p)<|U p<|ax p H18 (fun k19 H20=>O<|U p<|aj<|Z ⟨4,p,H20⟩) fun k19 H20=>ap<|O<|M (aJ p<|ar e10)<|J (aK p)<|J (ah ir p)<|aa<|aW H20 qP p (fun _=>p) p fun x41 H21=>M p<|M p<|M p<|J (bd p<|build_36_0_1_2 a3 3 (-1))<|cq H21 fun q46 e22 h23 H24=>J (be pn (aJ p<|aX e22) p h23)<|J (bC rj p p h16)<|aa<|di gQ p p p p p H24 fun _ H25=>ae<|O<|U p<|aj<|Z ⟨0,p,H25⟩
def sM (a0:Ptr) (a1:Int) (a2:Int) (a3:Int) (a4:Int) (a5:Int) (K:Int->Hp->Prop):Hp->Prop:=br a0.isNone ( K 10) ( cl prog iH [(pv a0),(.int .i64 a1),(.int .i64 a2)] aC fun r19=>br (!(!r19)) ( cl prog iH [(pv a0),(.int .i64 a3),(.int .i64 a4)] aC fun r25=>br ((!r25) || (!(ci a5))) ( K 2) ( nn a0 fun q34=>ld (q34.1,q34.2 + 0) cS fun x36=>ix x36 a1 fun q39=>gd (0 <= a2/\a2 < 8)<|ld (q39.1,q39.2 + Int.toNat a1 * 32 + Int.toNat a2 * 4) aD.C fun x41=>br (x41.fBa == 0) ( K 3) ( ld (q34.1,q34.2 + 0) cS fun x50=>ix x50 a3 fun q53=>gd (0 <= a4/\a4 < 8)<|ld (q53.1,q53.2 + Int.toNat a3 * 32 + Int.toNat a4 * 4 + 1) (cI .i64) fun x56=>br (x56 != 0) ( K 4) ( br (!(aP a5 x41.fBa)) ( K 5) ( ld (q34.1,q34.2 + 0) cS fun x67=>ix x67 a3 fun q76=>st (q76.1,q76.2 + Int.toNat a3 * 32 + Int.toNat a4 * 4) (aD.C (⟨x41.fEa,a5,a1,a2⟩:aD))<|K 0))))) ( K 2))
theorem sim_caps_Tree_Derive (a0:Ptr) (a1:Int) (a2:Int) (a3:Int) (a4:Int) (a5:Int) {K:Int->Hp->Prop} {h:Hp} (H:sM a0 a1 a2 a3 a4 a5 K h):cl prog iI [(pv a0),(.int .i64 a1),(.int .i64 a2),(.int .i64 a3),(.int .i64 a4),(.int .i64 a5)] bj K h:=z_i func143 p p fun _=>O<|U p<|am<|O<|M p<|J (cA underlying155 p)<|ae<|ax p H (fun k1 H2=>O<|U p<|aj<|Z ⟨10,p,H2⟩) fun k1 H2=>ap<|am<|O<|M p<|M p<|M p<|aa<|D H2 en_151 fun r19 _ H3=>J (cy p)<|M p<|W p p (aL _) (fun g4=>wv<|ai p)<|W p p (aL _) (fun g5=>wv<|ai p)<|W p p (aL _) (fun g6=>wv<|ai p)<|bU H3 (fun k8 H9=>G (F<|bO k8)<|gw H9 en_151 (aU (aG p k8)<|aU (aG p k8)<|aU (aG p k8) bX) p fun r25 _ H10=>G (F<|bO k8)<|z_p (cy p)<|J (au p (bO k8) p)<|M p<|W p p (aL _) (fun g11=>wv<|ai p)<|dh (vs:=[(.int .i64 a5)]) p p p (aL _) (fun g12=>bv<|ra a5 _) en_166 (fun g12=>aU (aG p g12) bX) p<|W p p (aL _) (fun g13=>wv<|cy<|aG p g13)<|J (dy p p)<|ae<|ax p H10 (fun k14 H15=>O<|U p<|aj<|Z ⟨2,p,H15⟩) fun k14 H15=>ap<|O<|M p<|bK H15 fun q34 e16 H17=>J (aK<|aJ p<|ar e16)<|J (ah ir p)<|aa<|aW H17 qP p (fun _=>p) p fun x36 H18=>M p<|M p<|cq H18 fun q39 e19 h20 H21=>J (be pn (aJ p<|aX e19) p h20)<|iM H21 fun h22 H23=>J (bC rj p p h22)<|aa<|hO H23 ag_36 p (fun _=>p) p fun x41 H24=>aa<|aO (l:=aD.C (⟨0,0,0,0⟩:aD)) iP p p fun b13=>aa<|aQ (k:=0) (vs:=aD.C x41) gQ p p p p p p p<|ae<|am<|aw<|O<|J (ah hG p)<|bi (bc (k:=0) ba p p p) p<|J (bP p p)<|U p<|ax p H24 (fun k25 H26=>O<|U p<|aj<|Z ⟨3,p,H26⟩) fun k25 H26=>O<|M (aJ p<|ar e16)<|J (aK p)<|J (ah ir p)<|aa<|aW H26 qP p (fun _=>p) p fun x50 H27=>M p<|M p<|cq H27 fun q53 e28 h29 H30=>J (be pn (aJ p<|aX e28) p h29)<|iM H30 fun h31 H32=>J (bC rj p p h31)<|J (ah hG p)<|aa<|aW H32 ba p (fun _=>p) p fun x56 H33=>J (qz p p)<|U p<|ax p H33 (fun k34 H35=>O<|U p<|aj<|Z ⟨4,p,H35⟩) fun k34 H35=>O<|M p<|J (ah hG p)<|bi (bc (k:=0) ba p p p) p<|aa<|cH (vs:=[(.int .i64 a5),(.int .i64 x41.fBa)]) (bv<|dm a5 x41.fBa _) nu p p<|J (cy p)<|U p<|ax p H35 (fun k36 H37=>O<|U p<|aj<|Z ⟨5,p,H37⟩) fun k36 H37=>ap<|am<|bn (n:=15) [bx b13 36 (aD.C x41)] ck p (.cons_cons _ .slnil)<|V 0 p (ai<|aJ p<|ar e16)<|V 1 p (aK p)<|V 2 p (ah ir p)<|V 4 p (ai p)<|V 5 p (ai p)<|V 6 p (ah uo p)<|z_E 7 p (dv (k:=0) ba p p p)<|V 8 p (ai p)<|V 9 p (ai p)<|V 10 p (ai p)<|V 11 p (bd p<|build_36_0_1_2_3 x41.fEa a5 a1 a2)<|bA (i:=3) (fun _ _ _ _ hh=>hh) H37 p (by kernel_rfl) qP p (fun _=>p) p fun x67 H38=>dJ H38 fun q76 e39 h40 H41=>V 12 p (be pn (aJ p<|aX e39) p h40)<|V 13 p (bC rj p p h31)<|I 14 p<|di gQ p p p p p H41 fun _ H42=>⟨.cons_cons _ .slnil,aR (by kernel_rfl)<|O<|U p<|aj<|Z ⟨0,p,H42⟩⟩) fun k8 H9=>Y (bL<|bq k8)<|Y (bL<|bq k8)<|J (aS p (bq k8) p)<|M p<|Y p<|Y p<|Y p<|J (aS p p p)<|ae<|kL p p<|O<|U p<|aj<|Z ⟨2,p,H9⟩
def iv (s6:Sl × Int) (Rec18:(Sl × Int)->Hp->Prop) (s17:Sl × Int) (s23:Bool):Hp->Prop:=br s23 ( hpv prog (Instr.buildSlice ik 1 #[(0,(.agg (aH.C (⟨s6.2,s17.2⟩:aH)).toArray))]) db fun (v45:Sl)=>hpv prog (Builtin.append_ #[ik,ik] ik #[(sv s17.1),(sv v45)]) db fun (v46:Sl)=>Rec18 (v46,(i64.wrap (s17.2 + 1)))) ( Rec18 (s17.1,(i64.wrap (s17.2 + 1))))
def rb (a1:Value) (Rec7:(Sl × Int)->Hp->Prop) (s6:Sl × Int) (v26:(List Value)) (Rec18:(Sl × Int)->Hp->Prop) (s17:Sl × Int):Hp->Prop:=br (decide (s17.2 < 8)) ( hpv prog (Instr.index lQ (.agg v26.toArray) (.int .i64 s17.2)) R_api_Cap fun (v30:aD)=>br (v30.fBa != 0) ( clv prog a1 [(.agg (aH.C (⟨s6.2,s17.2⟩:aH)).toArray),(.agg (aD.C v30).toArray)] aC fun r41=>iv s6 Rec18 s17 r41) ( iv s6 Rec18 s17 false)) ( Rec7 (s17.1,(i64.wrap (s6.2 + 1))))
def rc (a1:Value) (K:Sl->Hp->Prop) (q13:Nat × Nat) (x15:Sl) (Rec7:(Sl × Int)->Hp->Prop) (s6:Sl × Int):Hp->Prop:=br (decide (s6.2 < (x15.len:Int))) ( ld (q13.1,q13.2 + 0) cS fun x23=>ix x23 s6.2 fun q25=>hpv prog (Instr.loadAt lQ (.pointer (some ⟨q25.1,q25.2 + Int.toNat s6.2 * 32,none⟩))) encL fun (v26:(List Value))=>Lp (rb a1 Rec7 s6 v26) (s6.1,0)) ( K s6.1)
def wU (a0:Ptr) (a1:Value) (K:Sl->Hp->Prop):Hp->Prop:=br a0.isNone ( K (⟨none,0,0,none⟩:Sl)) ( nn a0 fun q13=>ld (q13.1,q13.2 + 0) cS fun x15=>Lp (rc a1 K q13 x15) ((⟨none,0,0,none⟩:Sl),0))
theorem sim_caps_Tree_all (a0:Ptr) (a1:Value) {K:Sl->Hp->Prop} {h:Hp} (H:wU a0 a1 K h):cl prog kT [(pv a0),a1] db K h:=z_i func188 p p fun _=>O<|U p<|am<|O<|M p<|J (cA underlying155 p)<|ae<|ax p H (fun k1 H2=>O<|U p<|aj<|Z ⟨(⟨none,0,0,none⟩:Sl),p,H2⟩) fun k1 H2=>ap<|O<|U p<|am<|O<|M p<|bK H2 fun q13 e3 H4=>J (aK<|aJ p<|ar e3)<|J (ah ir p)<|aa<|aW H4 qP p (fun _=>p) p fun x15 H5=>J (dA p underlying206 p)<|M p<|ae<|aw<|bz (step:=rc a1 K q13 x15) (fun s6=>[(0,(pv a0)),(1,a1),(5,(sv s6.1)),(16,(.int .i64 (x15.len:Int))),(17,(.int .i64 s6.2))]) (fun s6=>[]) H5 (.cons p<|.cons p<|.cons p<|.cons p<|.cons p<|.nil _) .slnil fun Rec7 s6 _ H8=>O<|J (cj p p)<|ae<|am<|ax p H8 (fun k9 H10=>ap<|am<|aw<|O<|M p<|U p<|O<|M (aJ p<|ar e3)<|J (aK p)<|J (ah ir p)<|aa<|aW H10 qP p (fun _=>p) p fun x23 H11=>M p<|cq H11 fun q25 e12 h13 H14=>J (be pn (aJ p<|aX e12) p h13)<|aa<|aV H14 (x_load p) p fun v26 _ H16=>M p<|ae<|aw<|bz (step:=rb a1 Rec7 s6 v26) (fun s17=>[(0,(pv a0)),(1,a1),(5,(sv s17.1)),(6,(.int .i64 s6.2)),(16,(.int .i64 (x15.len:Int))),(17,(.int .i64 s6.2)),(26,(.agg v26.toArray)),(27,(.int .i64 s17.2))]) (fun s17=>[]) H16 (.cons p<|.cons p<|.cons p<|.cons p<|.cons p<|.cons p<|.cons p<|.cons p<|.nil _) .slnil fun Rec18 s17 _ H19=>O<|J (cj p p)<|ae<|am<|ax p H19 (fun k20 H21=>ap<|am<|aw<|O<|M p<|aa<|aV H21 (x_index p p) p fun v30 _ H22=>aa<|aO (l:=aD.C (⟨0,0,0,0⟩:aD)) iP p p fun b8=>J (av p)<|aa<|aQ (k:=0) (vs:=aD.C v30) gQ p p p p p p p<|ae<|O<|M p<|M p<|J (bd p<|ww s6.2 s17.2)<|aa<|aO (l:=aH.C (⟨0,0⟩:aH)) zero_233 p p fun b9=>aa<|aQ (k:=0) (vs:=aH.C (⟨s6.2,s17.2⟩:aH)) inf_233 p p p p p p p<|ae<|eC (iv s6 Rec18 s17) (fun s23=>[(0,(pv a0)),(1,a1),(5,(sv s17.1)),(6,(.int .i64 s6.2)),(9,(.pointer (some ⟨b9,0,none⟩))),(16,(.int .i64 (x15.len:Int))),(17,(.int .i64 s6.2)),(26,(.agg v26.toArray)),(27,(.int .i64 s17.2)),(42,(.bool s23))]) (fun s23=>[bx b9 233 (aH.C (⟨s6.2,s17.2⟩:aH))]) (aq<|J (ah hG p)<|bi (bc (k:=1) ba p p p) p<|J (qz p p)<|M p<|W p p (ay _) (fun g29=>wv<|ai p)<|W p p (ay _) (fun g30=>cv<|bH (k:=0) ag_233 p p p p)<|W p p (ay _) (fun g31=>cv<|bH (k:=1) ag_36 p p p p)<|bU H22 (fun k33 H34=>G (F k33)<|to_clv H34 (aG p k33) (aU (aG p k33)<|aU (aG p k33) bX) p fun r41 _ H35=>J (aS p k33 p)<|ae<|cE r41 H35 (.cons p<|.cons p<|.cons p<|.cons p<|.cons p<|.cons p<|.cons p<|.cons p<|.cons p<|.cons p<|.nil _)<|.cons_cons _<|.cons _ .slnil) fun k33 H34=>Y (aT k33)<|J (au p k33 p)<|ae<|cE false H34 (.cons p<|.cons p<|.cons p<|.cons p<|.cons p<|.cons p<|.cons p<|.cons p<|.cons p<|.cons p<|.nil _)<|.cons_cons _<|.cons _ .slnil) fun s23 _ H24=>ax p H24 (fun k25 H26=>aq<|M p<|bi (bH (k:=0) ag_233 p p p p) p<|aa<|aV H26 (bE (vs:=[(.agg (aH.C (⟨s6.2,s17.2⟩:aH)).toArray)]) p) p fun v45 _ H27=>aa<|aV H27 (dT p p) p fun v46 _ H28=>U p<|aq<|J (bk p p)<|M p<|ae<|cF (v46,(i64.wrap (s17.2 + 1))) H28 (.cons p<|.cons p<|.cons p<|.cons p<|.cons p<|.cons p<|.cons p<|.cons p<|.nil _)<|.cons _ .slnil) fun k25 H26=>ap<|aq<|J (bk p p)<|M p<|ae<|cF (s17.1,(i64.wrap (s17.2 + 1))) H26 (.cons p<|.cons p<|.cons p<|.cons p<|.cons p<|.cons p<|.cons p<|.cons p<|.nil _)<|.cons _ .slnil) fun k20 H21=>bh<|aq<|J (bk p p)<|M p<|ae<|cF (s17.1,(i64.wrap (s6.2 + 1))) H21 (.cons p<|.cons p<|.cons p<|.cons p<|.cons p<|.nil _) .slnil) fun k9 H10=>bh<|O<|M p<|U p<|aj<|Z ⟨s6.1,p,H10⟩
def vp (a0:Ptr) (a1:Int) (a2:Int) (K:Int->Hp->Prop):Hp->Prop:=br a0.isNone ( K 10) ( cl prog iH [(pv a0),(.int .i64 a1),(.int .i64 a2)] aC fun r14=>br (!r14) ( K 2) ( nn a0 fun q18=>ld (q18.1,q18.2 + 0) cS fun x20=>ix x20 a1 fun q23=>gd (0 <= a2/\a2 < 8)<|ld (q23.1,q23.2 + Int.toNat a1 * 32 + Int.toNat a2 * 4 + 1) (cI .i64) fun x26=>br (x26 == 0) ( K 3) ( K 0)))
theorem sim_caps_Tree_look (a0:Ptr) (a1:Int) (a2:Int) {K:Int->Hp->Prop} {h:Hp} (H:vp a0 a1 a2 K h):cl prog mS [(pv a0),(.int .i64 a1),(.int .i64 a2)] bj K h:=z_i func201 p p fun _=>O<|U p<|am<|aw<|O<|M p<|J (cA underlying155 p)<|U p<|ax p H (fun k1 H2=>O<|U p<|aj<|Z ⟨10,p,H2⟩) fun k1 H2=>O<|M p<|M p<|M p<|aa<|D H2 en_151 fun r14 _ H3=>J (cy p)<|U p<|ax p H3 (fun k4 H5=>O<|U p<|aj<|Z ⟨2,p,H5⟩) fun k4 H5=>O<|M p<|bK H5 fun q18 e6 H7=>J (aK<|aJ p<|ar e6)<|J (ah ir p)<|aa<|aW H7 qP p (fun _=>p) p fun x20 H8=>M p<|M p<|cq H8 fun q23 e9 h10 H11=>J (be pn (aJ p<|aX e9) p h10)<|iM H11 fun h12 H13=>J (bC rj p p h12)<|J (ah hG p)<|aa<|aW H13 ba p (fun _=>p) p fun x26 H14=>J (bP p p)<|U p<|ax p H14 (fun k15 H16=>O<|U p<|aj<|Z ⟨3,p,H16⟩) fun k15 H16=>ap<|O<|U p<|aj<|Z ⟨0,p,H16⟩
def mv (a0:Ptr) (a1:Sl) (K:Sl->Hp->Prop) (Rec2:Int->Hp->Prop) (s1:Int):Hp->Prop:=br (decide (s1 < (a1.len:Int))) ( ix a1 s1 fun q11=>ld (q11.1,q11.2 + Int.toNat s1 * 2) aH.C fun x12=>nn a0 fun q14=>ld (q14.1,q14.2 + 0) cS fun x16=>ix x16 x12.fCa fun q22=>gd (0 <= x12.fDa/\x12.fDa < 8)<|st (q22.1,q22.2 + Int.toNat x12.fCa * 32 + Int.toNat x12.fDa * 4) (aD.C (⟨0,0,0,0⟩:aD))<|Rec2 (i64.wrap (s1 + 1))) ( K a1)
def rG (a0:Ptr) (a1:Sl) (K:Sl->Hp->Prop):Hp->Prop:=Lp (mv a0 a1 K) 0
theorem sim_caps_Tree_empties (a0:Ptr) (a1:Sl) {K:Sl->Hp->Prop} {h:Hp} (H:rG a0 a1 K h):cl prog gX [(pv a0),(sv a1)] db K h:=z_i func202 p p fun _=>O<|U p<|am<|O<|M p<|J (dA p underlying201 p)<|M p<|ae<|aw<|bz (step:=mv a0 a1 K) (fun s1=>[(0,(pv a0)),(1,(sv a1)),(7,(sv a1)),(8,(.int .i64 (a1.len:Int))),(9,(.int .i64 s1))]) (fun s1=>[]) H (.cons p<|.cons p<|.cons p<|.cons p<|.cons p<|.nil _) .slnil fun Rec2 s1 _ H3=>O<|J (cj p p)<|ae<|am<|ax p H3 (fun k4 H5=>ap<|am<|aw<|O<|cq H5 fun q11 e6 h7 H8=>J (be slc_201 (aJ p<|aX e6) p h7)<|aa<|hO H8 ag_233 p (fun _=>p) p fun x12 H9=>aa<|aO (l:=aH.C (⟨0,0⟩:aH)) zero_233 p p fun b6=>aa<|aQ (k:=0) (vs:=aH.C x12) inf_233 p p p p p p p<|ae<|bn (n:=12) [bx b6 233 (aH.C x12)] ck p (.cons_cons _ .slnil)<|V 0 p (ai p)<|V 4 p (ah fld_233_0 p)<|z_E 5 p (dv (k:=0) ba p p p)<|V 6 p (ah fld_233_1 p)<|z_E 7 p (dv (k:=0) ba p p p)<|V 8 p (bd (vs:=[]) p build_36)<|ii H9 fun q14 e10 H11=>V 1 p (aK<|aJ p<|ar e10)<|V 2 p (ah ir p)<|bA (i:=3) (fun _ _ _ _ hh=>hh) H11 p (by kernel_rfl) qP p (fun _=>p) p fun x16 H12=>dJ H12 fun q22 e13 h14 H15=>V 9 p (be pn (aJ p<|aX e13) p h14)<|eva_gd H15 fun h16 H17=>V 10 p (bC rj p p h16)<|I 11 p<|di gQ p p p p p H17 fun _ H18=>⟨.cons_cons _ .slnil,aR (by kernel_rfl)<|aq<|J (bk p p)<|M p<|ae<|cF (i64.wrap (s1 + 1)) H18 (.cons p<|.cons p<|.cons p<|.cons p<|.cons p<|.nil _)<|.cons _ .slnil⟩) fun k4 H5=>bh<|O<|M p<|U p<|aj<|Z ⟨a1,p,H5⟩
def oA (a0:Ptr) (a2:aH) (K:Bool->Hp->Prop) (Rec2:aD->Hp->Prop) (s1:aD):Hp->Prop:=br ((s1.fBa != 0) && (decide (s1.fCa >= 0))) ( br ((s1.fCa == a2.fCa) && (s1.fDa == a2.fDa)) ( K true) ( nn a0 fun q28=>ld (q28.1,q28.2 + 0) cS fun x30=>ix x30 s1.fCa fun q35=>gd (0 <= s1.fDa/\s1.fDa < 8)<|ld (q35.1,q35.2 + Int.toNat s1.fCa * 32 + Int.toNat s1.fDa * 4) aD.C fun x37=>Rec2 x37)) ( K false)
def tU (a0:Ptr) (a1:aD) (a2:aH) (K:Bool->Hp->Prop):Hp->Prop:=Lp (oA a0 a2 K) a1
theorem sim_caps_Tree_under (a0:Ptr) (a1:aD) (a2:aH) {K:Bool->Hp->Prop} {h:Hp} (H:tU a0 a1 a2 K h):cl prog lJ [(pv a0),(.agg (aD.C a1).toArray),(.agg (aH.C a2).toArray)] aC K h:=z_i func190 p p fun _=>O<|aa<|cD (l:=aD.C a1) p p p fun b4=>aa<|cD (l:=aH.C a2) p p p fun b5=>U p<|am<|aw<|bz (step:=oA a0 a2 K) (fun s1=>[(0,(pv a0)),(4,(.pointer (some ⟨b4,0,none⟩))),(5,(.pointer (some ⟨b5,0,none⟩)))]) (fun s1=>[bx b5 233 (aH.C a2),bx b4 36 (aD.C s1)]) H (.cons p<|.cons p<|.cons p<|.nil _) (.cons_cons _<|.cons_cons _ .slnil) fun Rec2 s1 _ H3=>am<|O<|J (ah hG p)<|bi (bc (k:=1) ba p p p) p<|J (qz p p)<|M p<|W p p (ay _) (fun g4=>wv<|ah rO p)<|W p p (ay _) (fun g5=>cv<|bc (k:=1) ba (aG p g5) p p)<|W p p (ay _) (fun g6=>wv<|jF (aG p g6) p)<|J (bQ p p)<|ae<|ax p H3 (fun k7 H8=>ap<|aw<|am<|O<|J (ah rO p)<|bi (bc (k:=1) ba p p p) p<|J (ah fld_233_0 p)<|bi (bc (k:=0) ba p p p) p<|J (bP p p)<|M p<|W p p (ay _) (fun g9=>wv<|ah fld_36_3 p)<|W p p (ay _) (fun g10=>cv<|bc (k:=1) ba (aG p g10) p p)<|W p p (ay _) (fun g11=>wv<|ah fld_233_1 p)<|W p p (ay _) (fun g12=>cv<|bc (k:=0) ba (aG p g12) p p)<|W p p (ay _) (fun g13=>wv<|bP (aG p g13)<|aG p g13)<|J (bQ p p)<|ae<|ax p H8 (fun k14 H15=>O<|U p<|aj<|Z ⟨true,p,H15⟩) fun k14 H15=>ap<|bn (n:=12) [] ck p (.cons _<|.cons _ .slnil)<|V 0 p (ai p)<|V 4 p (ah rO p)<|V 6 p (ah fld_36_3 p)<|ii H15 fun q28 e16 H17=>V 1 p (aK<|aJ p<|ar e16)<|V 2 p (ah ir p)<|bA (i:=3) (fun _ _ _ _ hh=>hh) H17 p (by kernel_rfl) qP p (fun _=>p) p fun x30 H18=>eva_load (i:=5) (fun _ _ _ _ hh=>hh) p (by kernel_rfl) p (bc (k:=1) ba p p p)<|dJ H18 fun q35 e19 h20 H21=>V 8 p (be pn (aJ p<|aX e19) p h20)<|eva_load (i:=7) (fun _ _ _ _ hh=>hh) p (by kernel_rfl) p (bc (k:=1) ba p p p)<|eva_gd H21 fun h22 H23=>V 9 p (bC rj p p h22)<|tf (i:=10) (fun _ _ _ _ hh=>hh) H23 p (by kernel_rfl) ag_36 p (fun _=>p) p fun x37 H24=>I 11 p<|aQ (k:=1) (vs:=aD.C x37) gQ p p p p p p p ⟨.cons _<|.cons _ .slnil,aR (by kernel_rfl)<|cF x37 H24 (.cons p<|.cons p<|.cons p<|.nil _)<|.cons_cons _<|.cons_cons _ .slnil⟩) fun k7 H8=>bh<|O<|U p<|aj<|Z ⟨false,p,H8⟩
def rH (a0:aH) (a1:aD) (c0:Nat) (c1:Nat) (K:Bool->Hp->Prop):Hp->Prop:=ld (c0,0) aH.C fun x8=>br (!(aH.eqb a0 x8)) ( ld (c1,0) cP fun x11=>ld (c0,0) aH.C fun x13=>cl prog lJ [(pv x11),(.agg (aD.C a1).toArray),(.agg (aH.C x13).toArray)] aC fun r14=>K r14) ( K true)
theorem sim_caps_Tree_Drop_c1 (a0:aH) (a1:aD) (c0:Nat) (c1:Nat) {K:Bool->Hp->Prop} {h:Hp} (H:rH a0 a1 c0 c1 K h):cl prog gY [(.agg (aH.C a0).toArray),(.agg (aD.C a1).toArray),(.pointer (some ⟨c0,0,none⟩)),(.pointer (some ⟨c1,0,none⟩))] aC K h:=z_i func203 p p fun _=>O<|aa<|cD (l:=aH.C a0) p p p fun b4=>aa<|cD (l:=aD.C a1) p p p fun b5=>U p<|O<|bi (bH (k:=1) ag_233 p p p p) p<|aa<|hO H ag_233 p (fun _=>p) p fun x8 H1=>J (v_eqA eqg_233 (eqr_233 9998 _ _) p p)<|M p<|bU H1 (fun k3 H4=>G (F<|bO k3)<|aW H4 iA p (fun _=>p) p fun x11 H5=>G (F<|bO k3)<|tY (cv<|bH (k:=0) ag_36 p p p p) p<|G (F<|bO k3)<|hO H5 ag_233 p (fun _=>p) p fun x13 H6=>G (F<|bO k3)<|D H6 en_190 fun r14 _ H7=>J (au p (bO k3) p)<|U p<|aj<|Z ⟨r14,p,H7⟩) fun k3 H4=>Y (bL<|bq k3)<|Y (bL<|bq k3)<|Y (bL<|bq k3)<|Y (bL<|bq k3)<|J (aS p (bq k3) p)<|U p<|aj<|Z ⟨true,p,H4⟩
def vr (a0:Ptr) (a1:Int) (a2:Int) (K:(Sl × Int)->Hp->Prop):Hp->Prop:=nw sS [pv a0] fun b3=>ld (b3,0) cP fun x10=>cl prog mS [(pv x10),(.int .i64 a1),(.int .i64 a2)] bj fun r13=>br (r13 != 0) ( K ((⟨none,0,0,none⟩:Sl),r13)) ( nw sR (aH.C (⟨0,0⟩:aH)) fun b9=>st (b9,0) (aH.C (⟨a1,a2⟩:aH))<|ld (b3,0) cP fun x21=>both ( ld (b3,0) cP fun x20=>cl prog kT [(pv x21),(.func (.func gY) #[] #[(.pointer (some ⟨b9,0,none⟩)),(.pointer (some ⟨b3,0,none⟩))])] db fun r23=>cl prog gX [(pv x20),(sv r23)] db fun r24=>K (r24,0)) ( cl prog kT [(pv x21),(.func (.func gY) #[] #[(.pointer (some ⟨b9,0,none⟩)),(.pointer (some ⟨b3,0,none⟩))])] db fun r23=>ld (b3,0) cP fun x20=>cl prog gX [(pv x20),(sv r23)] db fun r24=>K (r24,0)))
theorem sim_caps_Tree_Drop (a0:Ptr) (a1:Int) (a2:Int) {K:(Sl × Int)->Hp->Prop} {h:Hp} (H:vr a0 a1 a2 K h):cl prog mT [(pv a0),(.int .i64 a1),(.int .i64 a2)] dH K h:=z_i func174 p p fun _=>O<|aa<|iw p p p H fun b3 _ H1=>J (av p)<|U p<|am<|O<|aa<|aW H1 iA p (fun _=>p) p fun x10 H2=>M p<|M p<|aa<|D H2 en_201 fun r13 _ H3=>U p<|O<|M p<|J (qz p p)<|ae<|ax p H3 (fun k4 H5=>O<|M p<|J (av p)<|U p<|aj<|bD (bW p (cg p)<|cg p) ⟨((⟨none,0,0,none⟩:Sl),r13),p,H5⟩) fun k4 H5=>ap<|O<|M p<|M p<|J (bd p<|ww a1 a2)<|aa<|to_alloc zero_233 p p H5 fun b9 _ H6=>aa<|di inf_233 p p p p p H6 fun _ H7=>ae<|am<|bn (n:=7) [] ck p .slnil<|V 2 p (v_func p p)<|bA (i:=1) (fun _ _ _ _ hh=>hh) H7 p (by kernel_rfl) iA p (fun _=>p) p fun x21 H8=>ki H8 fun H9_1 H9_2=>kj (i:=0) (j:=3) (by kernel_rfl) (cQ p p<|aW H9_1 iA p (fun _=>p) p fun x20 H10=>⟨.slnil,I 3 p<|D H10 en_188 fun r23 _ H11=>⟨.slnil,I 4 p<|D H11 en_202 fun r24 _ H12=>⟨.slnil,V 5 p (av p)<|V 6 p (av p)<|aR (by kernel_rfl)<|aj<|bD (bW p (cg p)<|cg p) ⟨(r24,0),p,H12⟩⟩⟩⟩)<|cQ p p<|D H9_2 en_188 fun r23 _ H10=>⟨.slnil,bA (i:=0) (fun _ _ _ _ hh=>hh) H10 p (by kernel_rfl) iA p (fun _=>p) p fun x20 H11=>I 4 p<|D H11 en_202 fun r24 _ H12=>⟨.slnil,V 5 p (av p)<|V 6 p (av p)<|aR (by kernel_rfl)<|aj<|bD (bW p (cg p)<|cg p) ⟨(r24,0),p,H12⟩⟩⟩
def qw (a0:aH) (a1:aD) (c0:Nat) (c1:Nat) (c2:Nat) (K:Bool->Hp->Prop):Hp->Prop:=ld (c0,0) cP fun x8=>ld (c1,0) (cI .i64) fun x10=>ld (c2,0) (cI .i64) fun x11=>cl prog lJ [(pv x8),(.agg (aD.C a1).toArray),(.agg (aH.C (⟨x10,x11⟩:aH)).toArray)] aC fun r13=>K r13
theorem xX (a0:aH) (a1:aD) (c0:Nat) (c1:Nat) (c2:Nat) {K:Bool->Hp->Prop} {h:Hp} (H:qw a0 a1 c0 c1 c2 K h):cl prog mj [(.agg (aH.C a0).toArray),(.agg (aD.C a1).toArray),(.pointer (some ⟨c0,0,none⟩)),(.pointer (some ⟨c1,0,none⟩)),(.pointer (some ⟨c2,0,none⟩))] aC K h:=z_i func189 p p fun _=>O<|aa<|cD (l:=aH.C a0) p p p fun b5=>aa<|cD (l:=aD.C a1) p p p fun b6=>U p<|O<|aa<|aW H iA p (fun _=>p) p fun x8 H1=>bi (bH (k:=0) ag_36 p p p p) p<|aa<|aW H1 ba p (fun _=>p) p fun x10 H2=>aa<|aW H2 ba p (fun _=>p) p fun x11 H3=>J (bd p<|ww x10 x11)<|aa<|D H3 en_190 fun r13 _ H4=>U p<|aj<|Z ⟨r13,p,H4⟩
def tV (a0:Ptr) (a1:Int) (a2:Int) (K:Sl->Hp->Prop):Hp->Prop:=nw sS [pv a0] fun b3=>nw lD [.int .i64 a1] fun b4=>nw lD [.int .i64 a2] fun b5=>ld (b3,0) cP fun x7=>cl prog kT [(pv x7),(.func (.func mj) #[] #[(.pointer (some ⟨b3,0,none⟩)),(.pointer (some ⟨b4,0,none⟩)),(.pointer (some ⟨b5,0,none⟩))])] db fun r9=>K r9
theorem sim_caps_Tree_Below (a0:Ptr) (a1:Int) (a2:Int) {K:Sl->Hp->Prop} {h:Hp} (H:tV a0 a1 a2 K h):cl prog lK [(pv a0),(.int .i64 a1),(.int .i64 a2)] db K h:=z_i func147 p p fun _=>O<|aa<|iw p p p H fun b3 _ H1=>aa<|iw p p p H1 fun b4 _ H2=>aa<|iw p p p H2 fun b5 _ H3=>U p<|O<|aa<|aW H3 iA p (fun _=>p) p fun x7 H4=>J (v_func p p)<|aa<|D H4 en_188 fun r9 _ H5=>U p<|aj<|Z ⟨r9,p,H5⟩
def sL (a0:Ptr) (a1:Int) (a2:Int) (K:(Sl × Int)->Hp->Prop):Hp->Prop:=cl prog mS [(pv a0),(.int .i64 a1),(.int .i64 a2)] bj fun r12=>br (r12 != 0) ( K ((⟨none,0,0,none⟩:Sl),r12)) ( cl prog lK [(pv a0),(.int .i64 a1),(.int .i64 a2)] db fun r20=>cl prog gX [(pv a0),(sv r20)] db fun r21=>K (r21,0))
theorem sim_caps_Tree_Revoke (a0:Ptr) (a1:Int) (a2:Int) {K:(Sl × Int)->Hp->Prop} {h:Hp} (H:sL a0 a1 a2 K h):cl prog ow [(pv a0),(.int .i64 a1),(.int .i64 a2)] dH K h:=z_i func175 p p fun _=>O<|J (av p)<|U p<|am<|O<|M p<|M p<|M p<|aa<|D H en_201 fun r12 _ H1=>U p<|O<|M p<|J (qz p p)<|ae<|ax p H1 (fun k2 H3=>O<|M p<|J (av p)<|U p<|aj<|bD (bW p (cg p)<|cg p) ⟨((⟨none,0,0,none⟩:Sl),r12),p,H3⟩) fun k2 H3=>ap<|O<|M p<|M p<|M p<|M p<|aa<|D H3 en_147 fun r20 _ H4=>aa<|D H4 en_202 fun r21 _ H5=>J (av p)<|U p<|aj<|bD (bW p (cg p)<|cg p) ⟨(r21,0),p,H5⟩
def sh_caps_New (a0:Int) (K:Ptr->Hp->Prop):Hp->Prop:=br ((decide (a0 < 1)) || (decide (a0 > 4))) ( K none) ( hpv prog (Instr.makeSlice t_S_8_api_Cap (.int .i64 a0) (.int .i64 a0)) R_S_8_api_Cap fun (v10:Sl)=>nw oE (oY.C (⟨v10⟩:oY)) fun b12=>K (some (b12,0)))
theorem sim_caps_New (a0:Int) {K:Ptr->Hp->Prop} {h:Hp} (H:sh_caps_New a0 K h):cl prog yo [(.int .i64 a0)] tn K h:=z_i func106 p p fun _=>O<|U p<|am<|O<|M p<|J (cj p p)<|M p<|W p p (aL _) (fun g1=>wv<|ai p)<|W p p (aL _) (fun g2=>wv<|oZ (aG p g2) p)<|J (dy p p)<|ae<|ax p H (fun k3 H4=>O<|U p<|aj<|Z ⟨none,p,H4⟩) fun k3 H4=>ap<|O<|M p<|aa<|aV H4 (kr p p) p fun v10 _ H5=>J (bd p<|build_208_0 v10)<|aa<|iw p p p H5 fun b12 _ H6=>U p<|aj<|Z ⟨some (b12,0),p,H6⟩
end
section
open Go Mb
namespace Mb
def SpV {τ:Type} (P:Program) (c:Value) (args:List Value) (enc:τ->Value) (pre:List As) (post:τ->As):Prop :=
 ∃ f fi ca,c = .func (.func f) fi ca/\aI P f/\∀ h,aB pre h->Ct P f ((fi++args.toArray)++ca) h fun v h'=>∃ r,v = enc r/\post r h'
theorem wA {m:List As} {B:As} {h:Hp} (s:aB (m++[B]) h):aB (B::m) h:=kX (List.perm_append_singleton _ _) s
theorem star_rot' {m:List As} {B:As} {h:Hp} (s:aB (B::m) h):aB (m++[B]) h:=kX (List.perm_append_singleton _ _).symm s
theorem clv_t {τ:Type} {P:Program} {c:Value} {args:List Value} {enc:τ->Value} {pre:List As} {B:As} {post:τ->As} {K:τ->Hp->Prop} {h:Hp} (H:SpV P c args enc pre post) (s:aB (B::pre) h)
  (k:∀ r h',aB [post r,B] h'->K r h'):clv P c args enc K h:=by
 obtain ⟨f,fi,ca,rfl,he,H⟩:=H
 obtain ⟨h1,h2,d,rfl,s1,s2⟩:=fx.1 (star_rot' s)
 exact ⟨f,fi,ca,rfl,he,(H h1 s1).frame_mono d rfl fun v h' ⟨r,hv,q⟩ dj=>⟨r,hv,k r _ ⟨h',h2,dj,rfl,q,s2⟩⟩⟩
end Mb
abbrev Cap:=aD
abbrev bZ:=aH
abbrev mw:Cap:=⟨0,0,0,0⟩
theorem ri (c:Cap):c.C.length = 4:=rfl
theorem wW (c:bZ):c.C.length = 2:=rfl
theorem place_one (c:bZ):dM c.C = true:=rfl
instance:DecidableEq bZ:=fun a b=>decidable_of_iff (a.fCa = b.fCa/\a.fDa = b.fDa) ⟨fun h=>by cases a; cases b; simp_all,fun h=>by subst h; exact ⟨rfl,rfl⟩⟩
def enc8 (r:List Cap):List Value:=((r++replicate 8 mw).take 8).flatMap aD.C
theorem enc8_len (r:List Cap):(enc8 r).length = 32:=by unfold enc8; rw [dY ri]; simp
theorem enc8_eq {r:List Cap} (h:r.length = 8):enc8 r = r.flatMap aD.C:=by
 unfold enc8; rw [List.take_append_of_le_length (by omega),← h,take_length]
namespace fAa
abbrev T:=List (List Cap)
def has (t:T) (e s:Int):Bool:=decide (0 <= e/\e < t.length/\0 <= s/\s < 8)
def get (t:T) (e s:Int):Cap:=(t.getD e.toNat []).getD s.toNat mw
def put (t:T) (e s:Int) (c:Cap):T:=t.set e.toNat ((t.getD e.toNat []).set s.toNat c)
def at_ (t:T) (e s:Int):Cap × Bool:=if has t e s = true/\(get t e s).fBa ≠ 0 then (get t e s,true) else (mw,false)
def root (t:T) (e s f:Int):Int × T :=
 if has t e s = false\/f < 0\/f >= 16 then (2,t) else if (get t e s).fBa ≠ 0 then (4,t) else (0,put t e s ⟨f,3,-1,0⟩)
def derive (t:T) (e src to dst r:Int):Int × T :=
 if has t e src = false\/has t to dst = false\/ci r = false then (2,t)
 else if (get t e src).fBa = 0 then (3,t) else if (get t to dst).fBa ≠ 0 then (4,t)
 else if aP r (get t e src).fBa = false then (5,t) else (0,put t to dst ⟨(get t e src).fEa,r,e,src⟩)
def up:Nat->T->Cap->bZ->Bool
 | 0,_,_,_=>false
 | n + 1,t,c,p=>if c.fBa ≠ 0/\0 <= c.fCa then (if c.fCa = p.fCa/\c.fDa = p.fDa then true else up n t (get t c.fCa c.fDa) p) else false
def deep:Nat->T->Cap->Nat
 | 0,_,_=>0
 | n + 1,t,c=>if c.fBa ≠ 0/\0 <= c.fCa then deep n t (get t c.fCa c.fDa) + 1 else 0
def under (t:T) (c:Cap) (p:bZ):Bool:=up 40 t c p
def rowOf (P:Int->Int->Cap->Bool) (e:Int):List Cap->Int->List bZ
 | [],_=>[]
 | c::cs,s=>if c.fBa ≠ 0/\P e s c = true then ⟨e,s⟩::rowOf P e cs (s + 1) else rowOf P e cs (s + 1)
def allOf (P:Int->Int->Cap->Bool):T->Int->List bZ
 | [],_=>[]
 | r::rs,e=>rowOf P e r 0++allOf P rs (e + 1)
def below (t:T) (e s:Int):List bZ:=allOf (fun _ _ c=>under t c ⟨e,s⟩) t 0
def own (t:T) (e s:Int):List bZ:=allOf (fun a b c=>aH.eqb ⟨a,b⟩ ⟨e,s⟩ || under t c ⟨e,s⟩) t 0
def fVa (t:T):List bZ->T
 | []=>t
 | p::l=>fVa (put t p.fCa p.fDa mw) l
def look (t:T) (e s:Int):Int:=if has t e s = false then 2 else if (get t e s).fBa = 0 then 3 else 0
def revoke (t:T) (e s:Int):(List bZ × Int) × T:=if look t e s ≠ 0 then (([],look t e s),t) else ((below t e s,0),fVa t (below t e s))
def drop (t:T) (e s:Int):(List bZ × Int) × T:=if look t e s ≠ 0 then (([],look t e s),t) else ((own t e s,0),fVa t (own t e s))
structure Ok (t:T):Prop where
 len:t.length <= 4
 row:∀ r ∈ t,r.length = 8
 rk:∃ rank:Int->Int->Nat,∀ e s,has t e s = true->(get t e s).fBa ≠ 0->0 <= (get t e s).fCa ->
  has t (get t e s).fCa (get t e s).fDa = true/\(get t (get t e s).fCa (get t e s).fDa).fBa ≠ 0/\rank (get t e s).fCa (get t e s).fDa < rank e s
theorem has_nat {t:T} {e s:Int} (h:has t e s = true):∃ m n:Nat,e = m/\s = n/\m < t.length/\n < 8:=by
 unfold has at h
 have:=of_decide_eq_true h
 exact ⟨e.toNat,s.toNat,by omega,by omega,by omega,by omega⟩
theorem has_of {t:T} {m n:Nat} (h1:m < t.length) (h2:n < 8):has t m n = true:=by
 unfold has; exact decide_eq_true ⟨by omega,by omega,by omega,by omega⟩
theorem get_nat' {t:T} (ok:∀ r ∈ t,r.length = 8) {m n:Nat} (h1:m < t.length) (h2:n < 8):∃ h3:n < t[m].length,get t m n = t[m][n]:=by
 have:=ok _ (getElem_mem h1)
 refine ⟨by omega,?_⟩
 have h3:n < t[m].length:=by omega
 simp [get,h1,h3]
theorem put_nat {t:T} {m n:Nat} (h1:m < t.length) (c:Cap):put t m n c = t.set m (t[m].set n c):=by simp [put,h1]
theorem put_len (t:T) (e s:Int) (c:Cap):(put t e s c).length = t.length:=by simp [put]
theorem put_has (t:T) (e s:Int) (c:Cap) (a b:Int):has (put t e s c) a b = has t a b:=by unfold has; rw [put_len]
theorem put_row {t:T} (ok:∀ r ∈ t,r.length = 8) (e s:Int) (c:Cap):∀ r ∈ put t e s c,r.length = 8:=by
 intro r hr
 unfold put at hr
 rcases List.mem_or_eq_of_mem_set hr with h | h
 ·exact ok r h
 ·subst h
  by_cases hm:e.toNat < t.length
  ·simp [hm]; exact ok _ (getElem_mem hm)
  ·rw [List.set_eq_of_length_le (by omega)] at hr; exact ok _ hr
theorem get_put {t:T} (ok:∀ r ∈ t,r.length = 8) {e s a b:Int} (h:has t e s = true) (h2:has t a b = true) (c:Cap):get (put t e s c) a b = if a = e/\b = s then c else get t a b:=by
 obtain ⟨m,n,rfl,rfl,hm,hn⟩:=has_nat h
 obtain ⟨i,j,rfl,rfl,hi,hj⟩:=has_nat h2
 have hl:=ok _ (getElem_mem hm)
 rw [put_nat hm]
 simp only [get,Int.toNat_natCast,List.getD_eq_getElem?_getD,List.getElem?_set]
 by_cases e1:m = i
 ·subst e1
  by_cases e2:n = j
  ·subst e2; simp [hm,hl,hn]
  ·have:¬ ((m:Int) = m/\(j:Int) = n):=by omega
   rw [if_neg this]; simp [hm,e2]
 ·have:¬ ((i:Int) = m/\(j:Int) = n):=by omega
  rw [if_neg this]; simp [e1]
theorem pigeon:∀ (n:Nat) (l:List Nat),l.Nodup->(∀ x ∈ l,x < n)->l.length <= n
 | 0,l,_,h=>by
  cases l with
  | nil=>simp
  | cons a l=>exact absurd (h a (by simp)) (by omega)
 | n + 1,l,d,h=>by
  have h1:=pigeon n (l.erase n) (d.erase n) (fun x hx=>by
   have h2:=d.mem_erase_iff.1 hx
   have:=h x h2.2
   have:=h2.1
   omega)
  rw [List.length_erase] at h1
  split at h1 <;> omega
theorem path {t:T} (ok:Ok t) {rank:Int->Int->Nat} (hr:∀ e s,has t e s = true->(get t e s).fBa ≠ 0->0 <= (get t e s).fCa ->
  has t (get t e s).fCa (get t e s).fDa = true/\(get t (get t e s).fCa (get t e s).fDa).fBa ≠ 0/\rank (get t e s).fCa (get t e s).fDa < rank e s) :
  ∀ (n:Nat) (e s:Int),has t e s = true->∃ l:List Nat,l.length = deep n t (get t e s)/\l.Pairwise (fun a b=>rank (b / 8:Nat) (b % 8:Nat) < rank (a / 8:Nat) (a % 8:Nat))/\∀ a ∈ l,a < 32/\rank (a / 8:Nat) (a % 8:Nat) < rank e s
 | 0,_,_,_=>⟨[],rfl,.nil,fun a h=>by cases h⟩
 | n + 1,e,s,h=>by
  by_cases hc:(get t e s).fBa ≠ 0/\0 <= (get t e s).fCa
  ·obtain ⟨h1,h2,h3⟩:=hr e s h hc.1 hc.2
   obtain ⟨l,hl,hp,hb⟩:=path ok hr n _ _ h1
   obtain ⟨i,j,ei,ej,hi,hj⟩:=has_nat h1
   have hlen:=ok.len
   have e1:(i * 8 + j) / 8 = i:=by omega
   have e2:(i * 8 + j) % 8 = j:=by omega
   refine ⟨(i * 8 + j)::l,?_,?_,?_⟩
   ·simp only [List.length_cons,deep]; rw [if_pos hc,hl]
   ·refine List.pairwise_cons.2 ⟨fun b hb'=>?_,hp⟩
    have:=(hb b hb').2
    rw [e1,e2,← ei,← ej]; exact this
   ·intro a ha
    rcases mem_cons.1 ha with rfl | ha
    ·rw [e1,e2,← ei,← ej]; exact ⟨by omega,h3⟩
    ·exact ⟨(hb a ha).1,Nat.lt_trans (hb a ha).2 h3⟩
  ·exact ⟨[],by simp only [deep]; rw [if_neg hc]; rfl,.nil,fun a h=>by cases h⟩
theorem deep_le {t:T} (ok:Ok t) {e s:Int} (h:has t e s = true) (n:Nat):deep n t (get t e s) <= 32:=by
 obtain ⟨rank,hr⟩:=ok.rk
 obtain ⟨l,hl,hp,hb⟩:=path ok hr n e s h
 rw [← hl]
 refine pigeon 32 l (hp.imp ?_) (fun x hx=>(hb x hx).1)
 rintro a b hab rfl
 exact absurd hab (Nat.lt_irrefl _)
theorem deep_s (n:Nat) (t:T) (c:Cap):deep (n + 1) t c = if c.fBa ≠ 0/\0 <= c.fCa then deep n t (get t c.fCa c.fDa) + 1 else 0:=rfl
theorem up_s (n:Nat) (t:T) (c:Cap) (p:bZ):up (n + 1) t c p = if c.fBa ≠ 0/\0 <= c.fCa then (if c.fCa = p.fCa/\c.fDa = p.fDa then true else up n t (get t c.fCa c.fDa) p) else false:=rfl
theorem deep_succ {t:T}:∀ {n:Nat} {c:Cap},deep n t c < n->deep (n + 1) t c = deep n t c
 | 0,_,h=>by omega
 | n + 1,c,h=>by
  rw [deep_s (n + 1) t c,deep_s n t c]
  rw [deep_s n] at h
  by_cases hc:c.fBa ≠ 0/\0 <= c.fCa
  ·rw [if_pos hc] at h
   rw [if_pos hc,if_pos hc,deep_succ (n:=n) (by omega)]
  ·rw [if_neg hc,if_neg hc]
theorem up_succ {t:T} {p:bZ}:∀ {n:Nat} {c:Cap},deep n t c < n->up (n + 1) t c p = up n t c p
 | 0,_,h=>by omega
 | n + 1,c,h=>by
  rw [up_s (n + 1) t c p,up_s n t c p]
  rw [deep_s n] at h
  by_cases hc:c.fBa ≠ 0/\0 <= c.fCa
  ·rw [if_pos hc] at h
   rw [if_pos hc,if_pos hc,up_succ (n:=n) (by omega)]
  ·rw [if_neg hc,if_neg hc]
theorem under_step {t:T} (ok:Ok t) {e s:Int} (h:has t e s = true) (p:bZ):under t (get t e s) p = if (get t e s).fBa ≠ 0/\0 <= (get t e s).fCa then (if (get t e s).fCa = p.fCa/\(get t e s).fDa = p.fDa then true else under t (get t (get t e s).fCa (get t e s).fDa) p) else false:=by
 have h1:=deep_le ok h 40
 unfold under
 by_cases hc:(get t e s).fBa ≠ 0/\0 <= (get t e s).fCa
 ·rw [deep_s 39,if_pos hc] at h1
  rw [up_s 39,up_succ (n:=39) (by omega)]
 ·rw [up_s 39,if_neg hc,if_neg hc]
theorem deep_step {t:T} (ok:Ok t) {e s:Int} (h:has t e s = true) (hc:(get t e s).fBa ≠ 0/\0 <= (get t e s).fCa):deep 40 t (get t (get t e s).fCa (get t e s).fDa) < deep 40 t (get t e s):=by
 have h1:=deep_le ok h 40
 rw [deep_s 39,if_pos hc] at h1
 rw [deep_succ (n:=39) (by omega),deep_s 39,if_pos hc]
 omega
theorem ok_new (n:Nat) (h:n <= 4):Ok (replicate n (replicate 8 mw)):=by
 refine ⟨by simpa using h,fun r hr=>?_,fun _ _=>0,fun e s hh hne=>?_⟩
 ·rw [(List.mem_replicate.1 hr).2]; rfl
 ·exfalso
  apply hne
  obtain ⟨i,j,rfl,rfl,hi,hj⟩:=has_nat hh
  simp only [List.length_replicate] at hi
  simp only [get,Int.toNat_natCast,List.getD_eq_getElem?_getD,List.getElem?_replicate,if_pos hi,Option.getD_some,if_pos hj]
theorem ok_put {t:T} (ok:Ok t) {e s:Int} (h:has t e s = true) (h0:(get t e s).fBa = 0) (c:Cap) (hc:0 <= c.fCa->has t c.fCa c.fDa = true/\(get t c.fCa c.fDa).fBa ≠ 0):Ok (put t e s c):=by
 obtain ⟨rank,hr⟩:=ok.rk
 refine ⟨by rw [put_len]; exact ok.len,put_row ok.row e s c,fun a b=>if a = e/\b = s then rank c.fCa c.fDa + 1 else rank a b,fun a b hab hne hen=>?_⟩
 rw [put_has] at hab
 have keep:∀ {i j:Int},has t i j = true->(get t i j).fBa ≠ 0->¬ (i = e/\j = s):=by
  rintro i j _ hn ⟨rfl,rfl⟩; exact hn h0
 have hg:=get_put ok.row h hab c
 rw [hg] at hne hen ⊢
 by_cases hes:a = e/\b = s
 ·rw [if_pos hes] at hne hen ⊢
  obtain ⟨h1,h2⟩:=hc hen
  have hk:=keep h1 h2
  refine ⟨by rw [put_has]; exact h1,by rw [get_put ok.row h h1,if_neg hk]; exact h2,?_⟩
  show (if c.fCa = e/\c.fDa = s then _ else _) < (if a = e/\b = s then _ else _)
  rw [if_neg hk,if_pos hes]; omega
 ·rw [if_neg hes] at hne hen ⊢
  obtain ⟨h1,h2,h3⟩:=hr a b hab hne hen
  have hk:=keep h1 h2
  refine ⟨by rw [put_has]; exact h1,by rw [get_put ok.row h h1,if_neg hk]; exact h2,?_⟩
  show (if (get t a b).fCa = e/\(get t a b).fDa = s then _ else _) < (if a = e/\b = s then _ else _)
  rw [if_neg hk,if_neg hes]; exact h3
theorem empties_len:∀ (l:List bZ) (t:T),(fVa t l).length = t.length
 | [],_=>rfl
 | p::l,t=>by rw [fVa,empties_len l,put_len]
theorem empties_has (t:T) (l:List bZ) (a b:Int):has (fVa t l) a b = has t a b:=by unfold has; rw [empties_len]
theorem empties_row:∀ (l:List bZ) (t:T),(∀ r ∈ t,r.length = 8)->∀ r ∈ fVa t l,r.length = 8
 | [],_,h=>h
 | p::l,t,h=>empties_row l _ (put_row h _ _ _)
theorem jB:∀ (l:List bZ) (t:T),(∀ r ∈ t,r.length = 8)->(∀ p ∈ l,has t p.fCa p.fDa = true)->∀ a b,has t a b = true->get (fVa t l) a b = if (⟨a,b⟩:bZ) ∈ l then mw else get t a b
 | [],_,_,_,_,_,_=>by simp [fVa]
 | p::l,t,h,hl,a,b,hab=>by
  rw [fVa,jB l _ (put_row h _ _ _) (fun q hq=>by rw [put_has]; exact hl q (by simp [hq])) a b (by rw [put_has]; exact hab),get_put h (hl p (by simp)) hab]
  by_cases h1:(⟨a,b⟩:bZ) ∈ l
  ·rw [if_pos h1,if_pos (by simp [h1])]
  ·rw [if_neg h1]
   by_cases h2:a = p.fCa/\b = p.fDa
   ·obtain ⟨rfl,rfl⟩:=h2
    rw [if_pos ⟨rfl,rfl⟩,if_pos (by simp)]
   ·rw [if_neg h2,if_neg]
    intro hm
    rcases mem_cons.1 hm with hm | hm
    ·subst hm; exact h2 ⟨rfl,rfl⟩
    ·exact h1 hm
theorem rowOf_c (P:Int->Int->Cap->Bool) (e:Int) (c:Cap) (cs:List Cap) (s:Int):rowOf P e (c::cs) s = if c.fBa ≠ 0/\P e s c = true then ⟨e,s⟩::rowOf P e cs (s + 1) else rowOf P e cs (s + 1):=rfl
theorem mem_rowOf {P:Int->Int->Cap->Bool} {e:Int} {p:bZ}:∀ {cs:List Cap} {s:Int},p ∈ rowOf P e cs s↔p.fCa = e/\∃ (n:Nat) (c:Cap),cs[n]? = some c/\p.fDa = s + n/\c.fBa ≠ 0/\P e (s + n) c = true
 | [],s=>by simp [rowOf]
 | c::cs,s=>by
  have ih:=mem_rowOf (P:=P) (e:=e) (p:=p) (cs:=cs) (s:=s + 1)
  have tail:(p.fCa = e/\∃ (n:Nat) (c':Cap),cs[n]? = some c'/\p.fDa = s + 1 + n/\c'.fBa ≠ 0/\P e (s + 1 + n) c' = true)↔(p.fCa = e/\∃ (n:Nat) (c':Cap),(c::cs)[n + 1]? = some c'/\p.fDa = s + ((n + 1:Nat):Int)/\c'.fBa ≠ 0/\P e (s + ((n + 1:Nat):Int)) c' = true):=by
   have:∀ n:Nat,s + ((n + 1:Nat):Int) = s + 1 + n:=fun n=>by omega
   simp only [this,List.getElem?_cons_succ]
  have split0:(p.fCa = e/\∃ (n:Nat) (c':Cap),(c::cs)[n]? = some c'/\p.fDa = s + n/\c'.fBa ≠ 0/\P e (s + n) c' = true)↔(p = ⟨e,s⟩/\c.fBa ≠ 0/\P e s c = true)\/(p.fCa = e/\∃ (n:Nat) (c':Cap),(c::cs)[n + 1]? = some c'/\p.fDa = s + ((n + 1:Nat):Int)/\c'.fBa ≠ 0/\P e (s + ((n + 1:Nat):Int)) c' = true):=by
   constructor
   ·rintro ⟨he,n,c',h1,h2,h3,h4⟩
    cases n with
    | zero =>
     simp at h1; subst h1
     simp at h2 h4
     exact .inl ⟨by cases p; simp_all,h3,h4⟩
    | succ n=>exact .inr ⟨he,n,c',h1,h2,h3,h4⟩
   ·rintro (⟨rfl,h3,h4⟩ | ⟨he,n,c',h1,h2,h3,h4⟩)
    ·exact ⟨rfl,0,c,rfl,by simp,h3,by simpa using h4⟩
    ·exact ⟨he,n + 1,c',h1,h2,h3,h4⟩
  rw [split0,← tail,← ih,rowOf_c]
  split
  ·rename_i hc
   rw [mem_cons]
   constructor
   ·rintro (h | h)
    ·exact .inl ⟨h,hc⟩
    ·exact .inr h
   ·rintro (h | h)
    ·exact .inl h.1
    ·exact .inr h
  ·rename_i hc
   constructor
   ·exact .inr
   ·rintro (h | h)
    ·exact absurd h.2 hc
    ·exact h
theorem mem_allOf {P:Int->Int->Cap->Bool} {p:bZ}:∀ {t:T} {e:Int},p ∈ allOf P t e↔∃ (m n:Nat) (r:List Cap) (c:Cap),t[m]? = some r/\r[n]? = some c/\p = ⟨e + m,n⟩/\c.fBa ≠ 0/\P (e + m) n c = true
 | [],e=>by simp [allOf]
 | r::t,e=>by
  rw [allOf,List.mem_append,mem_rowOf,mem_allOf]
  constructor
  ·rintro (⟨h1,n,c,h2,h3,h4,h5⟩ | ⟨m,n,r',c,h1,h2,rfl,h4,h5⟩)
   ·refine ⟨0,n,r,c,rfl,h2,?_,h4,?_⟩
    ·cases p; simp_all
    ·simpa using h5
   ·refine ⟨m + 1,n,r',c,by simpa using h1,h2,?_,h4,?_⟩
    ·congr 1; omega
    ·rw [show e + ((m + 1:Nat):Int) = e + 1 + m from by omega]; exact h5
  ·rintro ⟨m,n,r',c,h1,h2,rfl,h4,h5⟩
   cases m with
   | zero =>
    simp at h1; subst h1
    exact .inl ⟨by simp,n,c,h2,by simp,h4,by simpa using h5⟩
   | succ m =>
    refine .inr ⟨m,n,r',c,by simpa using h1,h2,?_,h4,?_⟩
    ·congr 1; omega
    ·rw [show e + 1 + (m:Int) = e + ((m + 1:Nat):Int) from by omega]; exact h5
theorem mem_all {t:T} (row:∀ r ∈ t,r.length = 8) {P:Int->Int->Cap->Bool} {p:bZ}:p ∈ allOf P t 0↔has t p.fCa p.fDa = true/\(get t p.fCa p.fDa).fBa ≠ 0/\P p.fCa p.fDa (get t p.fCa p.fDa) = true:=by
 rw [mem_allOf]
 constructor
 ·rintro ⟨m,n,r,c,h1,h2,rfl,h4,h5⟩
  obtain ⟨hm,e1⟩:=List.getElem?_eq_some_iff.1 h1
  obtain ⟨hn,e2⟩:=List.getElem?_eq_some_iff.1 h2
  have h8:=row r (List.mem_of_getElem? h1)
  simp only [zero_add] at h5 ⊢
  have hg:get t m n = c:=by simp [get,h1,h2]
  rw [hg]
  exact ⟨has_of hm (by omega),h4,h5⟩
 ·rintro ⟨h1,h2,h3⟩
  obtain ⟨m,n,em,en,hm,hn⟩:=has_nat h1
  rw [em,en] at h2 h3
  obtain ⟨hn',hg⟩:=get_nat' row hm hn
  rw [hg] at h2 h3
  refine ⟨m,n,t[m],t[m][n],by simp [hm],by simp [hn'],?_,h2,by simpa using h3⟩
  cases p; simp_all
theorem mem_below {t:T} (ok:Ok t) {e s:Int} {p:bZ}:p ∈ below t e s↔has t p.fCa p.fDa = true/\(get t p.fCa p.fDa).fBa ≠ 0/\under t (get t p.fCa p.fDa) ⟨e,s⟩ = true:=mem_all ok.row
theorem eqb_place (p q:bZ):aH.eqb p q = true↔p = q:=by
 cases p; cases q; simp [aH.eqb]
theorem mem_own {t:T} (ok:Ok t) {e s:Int} {p:bZ}:p ∈ own t e s↔has t p.fCa p.fDa = true/\(get t p.fCa p.fDa).fBa ≠ 0/\(p = ⟨e,s⟩\/under t (get t p.fCa p.fDa) ⟨e,s⟩ = true):=by
 unfold own
 rw [mem_all ok.row,Bool.or_eq_true,eqb_place]
theorem under_rights {t:T} {c:Cap} {p:bZ} (h:under t c p = true):c.fBa ≠ 0:=by
 unfold under at h; rw [up_s 39] at h
 split at h
 ·rename_i hc; exact hc.1
 ·cases h
theorem ok_empties {t:T} (ok:Ok t) {l:List bZ} (hl:∀ p ∈ l,has t p.fCa p.fDa = true)
  (cl:∀ e s,has t e s = true->(get t e s).fBa ≠ 0->0 <= (get t e s).fCa->(⟨(get t e s).fCa,(get t e s).fDa⟩:bZ) ∈ l->(⟨e,s⟩:bZ) ∈ l):Ok (fVa t l):=by
 obtain ⟨rank,hr⟩:=ok.rk
 refine ⟨by rw [empties_len]; exact ok.len,empties_row l t ok.row,rank,fun a b hab hne hen=>?_⟩
 rw [empties_has] at hab
 have hg:=jB l t ok.row hl a b hab
 by_cases hm:(⟨a,b⟩:bZ) ∈ l
 ·rw [if_pos hm] at hg; rw [hg] at hne; exact absurd rfl hne
 ·rw [if_neg hm] at hg
  rw [hg] at hne hen ⊢
  obtain ⟨h1,h2,h3⟩:=hr a b hab hne hen
  have hp:(⟨(get t a b).fCa,(get t a b).fDa⟩:bZ) ∉ l:=fun h=>hm (cl a b hab hne hen h)
  refine ⟨by rw [empties_has]; exact h1,?_,h3⟩
  rw [jB l t ok.row hl _ _ h1,if_neg hp]; exact h2
theorem ok_below {t:T} (ok:Ok t) (e s:Int):Ok (fVa t (below t e s)):=by
 refine ok_empties ok (fun p hp=>((mem_below ok).1 hp).1) fun a b hab hne hen hp=>?_
 have h1:=(mem_below ok).1 hp
 refine (mem_below ok).2 ⟨hab,hne,?_⟩
 rw [under_step ok hab,if_pos ⟨hne,hen⟩]
 split
 ·rfl
 ·exact h1.2.2
theorem ok_own {t:T} (ok:Ok t) (e s:Int):Ok (fVa t (own t e s)):=by
 refine ok_empties ok (fun p hp=>((mem_own ok).1 hp).1) fun a b hab hne hen hp=>?_
 have h1:=(mem_own ok).1 hp
 refine (mem_own ok).2 ⟨hab,hne,.inr ?_⟩
 rw [under_step ok hab,if_pos ⟨hne,hen⟩]
 split
 ·rfl
 ·rename_i hno
  rcases h1.2.2 with h | h
  ·exact absurd ⟨congrArg aH.fCa h,congrArg aH.fDa h⟩ hno
  ·exact h
theorem ok_root {t:T} (ok:Ok t) (e s f:Int):Ok (root t e s f).2:=by
 unfold root
 split
 ·exact ok
 ·split
  ·exact ok
  ·rename_i h1 h2
   refine ok_put ok (by simp at h1; exact h1.1) (by simpa using h2) _ (fun h=>?_)
   exact absurd h (by show ¬ (0:Int) <= -1; omega)
theorem ok_derive {t:T} (ok:Ok t) (e src to dst r:Int):Ok (derive t e src to dst r).2:=by
 unfold derive
 split
 ·exact ok
 ·split
  ·exact ok
  ·split
   ·exact ok
   ·split
    ·exact ok
    ·rename_i h1 h2 h3 h4
     simp at h1
     exact ok_put ok h1.2.1 (by simpa using h3) _ (fun _=>⟨h1.1,h2⟩)
theorem ok_revoke {t:T} (ok:Ok t) (e s:Int):Ok (revoke t e s).2:=by
 unfold revoke; split
 ·exact ok
 ·exact ok_below ok e s
theorem ok_drop {t:T} (ok:Ok t) (e s:Int):Ok (drop t e s).2:=by
 unfold drop; split
 ·exact ok
 ·exact ok_own ok e s
end fAa
end
end Go.Proofs.YtemoifebbhoinaaGreatDoor
