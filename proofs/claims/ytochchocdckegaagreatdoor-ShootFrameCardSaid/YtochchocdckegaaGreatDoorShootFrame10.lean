/- Part of the proof of: The law ShootFrame returns true for every input, and leaves its arguments as they were. -/
import Derived.Test.YtochchocdckegaaGreatDoorShootFrame09
set_option linter.all false
set_option maxRecDepth 20000
namespace Go.Proofs.YtochchocdckegaaGreatDoor
open Go.Proofs.Tryz
open Go.IntKind (i64 u64)
open _root_.Int (toNat_natCast)
open _root_.List (getElem_mem length_replicate length_set pairwise_append replicate set_set)
open _root_.Nat (zero_le)
section
open Go Mb
theorem gone_app (f:Int):∀ (l:List bX) (k:PK) (p:bX),PK.gone k f (l++[p]) = PK.gone (PK.gone k f l) f [p]
 | [],_,_=>rfl
 | _::l,_,p=>gone_app f l _ p
theorem gone_s (f:Int):∀ (l:List bX) (k:PK),(PK.gone k f l).s = k.s/\(PK.gone k f l).m = k.m/\(PK.gone k f l).caps = k.caps/\(PK.gone k f l).tabs.length = k.tabs.length
 | [],_=>⟨rfl,rfl,rfl,rfl⟩
 | p::l,k=>by
  obtain ⟨h1,h2,h3,h4⟩:=gone_s f l { k with tabs:=k.tabs.set p.fCa.toNat (PK.unmap (PK.tab k p.fCa) p.fDa),pool:=(Pool.lets k.pool f).2.2 };rw [PK.gone];exact ⟨h1,h2,h3,by rw [h4]; simp⟩
theorem unmaps_app:∀ (l:List Int) (ps:List Pte) (i:Int),PK.unmaps ps (l++[i]) = (Table.remove (PK.unmaps ps l) i).2
 | [],_,_=>rfl
 | j::l,ps,i=>by rw [List.cons_append,PK.unmaps,PK.unmaps,unmaps_app l]
theorem revoke_loop {z:PZ} {k:PK} {l:List bX} {s7:Sl} {h:Hp} {K:eQ->Hp->Prop} (c:Cap × Bool) (ok:PK.Ok k) (h1:z.tp.length = k.tabs.length) (hl:∀ p ∈ l,fAa.has k.caps p.fCa p.fDa = true) (hb:l.length <= 1000)
  (s0:aB (vP s7 l::plainL z k) h) (kk:∀ h',aB [bu (some (z.b,0)) (PK.gone k c.1.fEa l)] h'->K ⟨0,u64.wrap l.length⟩ h'):Lp (ip K (z.b,0) c s7) 0 h:=by
 have hsl:=(cj (j:=0) s0 rfl).1;have hts:=(cj (j:=3) s0 rfl).1;refine Lp.intro (fun (i:Int) h=>∃ n:Nat,i = n/\n <= l.length/\aB (vP s7 l::plainL z (PK.gone k c.1.fEa (l.take n))) h) (fun (i:Int) _=>l.length - i.toNat) ⟨0,rfl,zero_le _,s0⟩ ?_;rintro i h ⟨n,rfl,hn,s1⟩;unfold ip;refine aY (fun d=>?_) (fun d=>?_)
 ·have hlt:n < l.length:=by rw [hsl] at d; simpa using d
  have hw:i64.wrap ((n:Int) + 1) = ((n + 1:Nat):Int):=by rw [bm (by omega) (by omega)]; rfl
  have okn:=ok_gone (l.take n) ok c.1.fEa;obtain ⟨g1,g2,g3,g4⟩:=gone_s c.1.fEa (l.take n) k;have ht:l.take (n + 1) = l.take n++[l[n]]:=by simp
  have step:PK.gone k c.1.fEa (l.take (n + 1)) = { PK.gone k c.1.fEa (l.take n) with tabs:=(PK.gone k c.1.fEa (l.take n)).tabs.set l[n].fCa.toNat (PK.unmap (PK.tab (PK.gone k c.1.fEa (l.take n)) l[n].fCa) l[n].fDa),pool:=(Pool.lets (PK.gone k c.1.fEa (l.take n)).pool c.1.fEa).2.2 }:=by
   rw [ht,gone_app]; rfl
  generalize hk:PK.gone k c.1.fEa (l.take n) = kn at *
  obtain ⟨a,b,ea,eb,ha,hb'⟩:=fAa.has_nat (hl _ (getElem_mem hlt));have ha':a < kn.tabs.length:=by have:=ok.tl; have:=ok.cl; omega
  have hap:a < z.tp.length:=by omega
  refine dk s1 (j:=0) rfl (by omega) (by omega) fun q hq=>?_;refine dD (j:=0) (i:=n) (k:=0) l[n] wW s1 rfl hq (by simp) (aF hlt) (by simp) ?_;refine bq z.ts s1 (i:=1) rfl rfl rfl ?_;refine dk s1 (j:=3) rfl (by omega) (by omega) fun q2 hq2=>?_;refine dD (j:=3) (i:=a) (k:=0) z.tp[a] iz s1 rfl hq2 (by rw [ea]; simp) (aF hap) (by simp) ?_;have s2:=jT (aF hap) (aF ha') (bd [4] s1 rfl);refine xo (sp_table_By z.tp[a] kn.tabs[a] l[n].fDa) (i:=0) rfl s2 fun r77 h3 s3=>?_;have hpl:=(cj (j:=0) s3 rfl).1;have hp8:(Table.by_ kn.tabs[a] l[n].fDa).length <= 8:=by have:=by_len l[n].fDa kn.tabs[a] 0; have:=(okn.tr _ (getElem_mem ha')).1; unfold Table.by_; omega
  refine Lp.intro (fun (i:Int) h=>∃ m:Nat,i = m/\m <= (Table.by_ kn.tabs[a] l[n].fDa).length/\aB [vI r77 (Table.by_ kn.tabs[a] l[n].fDa),di z.tp[a] (PK.unmaps kn.tabs[a] ((Table.by_ kn.tabs[a] l[n].fDa).take m)),but di z.tp kn.tabs a,vP s7 l,blk z.b cL (ra kn.s z),iV z.pm kn.m,vQ eL z.ts z.tp,gu z.pp kn.pool,cU z.pc kn.caps] h) (fun (i:Int) _=>(Table.by_ kn.tabs[a] l[n].fDa).length - i.toNat) ⟨0,rfl,zero_le _,s3⟩ ?_;rintro i h ⟨m,rfl,hm,s4⟩;unfold kH;refine aY (fun d2=>?_) (fun d2=>?_)
  ·have hlt2:m < (Table.by_ kn.tabs[a] l[n].fDa).length:=by rw [hpl] at d2; simpa using d2
   have hw2:i64.wrap ((m:Int) + 1) = ((m + 1:Nat):Int):=by rw [bm (by omega) (by omega)]; rfl
   refine dk s4 (j:=0) rfl (by omega) (by omega) fun q3 hq3=>?_;refine dD (j:=0) (i:=m) (k:=0) (Table.by_ kn.tabs[a] l[n].fDa)[m] (ck _) s4 rfl hq3 (by simp) (aF hlt2) (by simp) ?_;refine bq z.ts s4 (i:=4) rfl rfl rfl ?_;refine dk s4 (j:=6) rfl (by omega) (by omega) fun q4 hq4=>?_;refine dD (j:=6) (i:=a) (k:=0) z.tp[a] iz s4 rfl hq4 (by rw [ea]; simp) (aF hap) (by simp) ?_;refine bM (sp_table_Remove z.tp[a] _ _) (i:=1) rfl s4 fun r h5 hr s5=>?_;rw [hw2];refine ⟨⟨m + 1,rfl,hlt2,?_⟩,by simp; omega⟩;have ht2:(Table.by_ kn.tabs[a] l[n].fDa).take (m + 1) = (Table.by_ kn.tabs[a] l[n].fDa).take m++[(Table.by_ kn.tabs[a] l[n].fDa)[m]]:=by simp
   rw [ht2,unmaps_app];exact s5
  ·have:m = (Table.by_ kn.tabs[a] l[n].fDa).length:=by rw [hpl] at d2; simp at d2; omega
   subst this;rw [List.take_length] at s4;have s5:=yD (aF hap) ha' (by omega) (bY (l:=[vI r77 (Table.by_ kn.tabs[a] l[n].fDa)]) s4);refine bq z.pp s5 (i:=2) rfl rfl rfl ?_;refine bM (sp_pool_Let z.pp kn.pool c.1.fEa) (i:=5) rfl s5 fun r h6 hr s6=>?_;rw [hw];refine ⟨⟨n + 1,rfl,hlt,?_⟩,by simp; omega⟩;rw [step,ea];have e1:PK.tab kn (a:Int) = kn.tabs[a]:=(tab_of okn ha').1;rw [e1];exact bd [1,1,1,1] s6 rfl
 ·have:n = l.length:=by rw [hsl] at d; simp at d; omega
  subst this;rw [List.take_length] at s1;rw [hsl];obtain ⟨g1,g2,g3,g4⟩:=gone_s c.1.fEa l k;exact kk h (dl (by omega) (ok_gone l ok _) (bY (l:=[vP s7 l]) s1))
theorem sp_plain_revoke (x:Ptr) (k:PK) (e s:Int) (w:Bool):Sp prog lA [pv x,.int .i64 e,.int .i64 s,.bool w] iB [bu x k] (fun r=>pa_ (r = (PK.revoke k e s w).1) [bu x (PK.revoke k e s w).2]):=by
 intro h s0;obtain ⟨z,rfl,h1,ok,hl,st⟩:=gi s0;have o1:=fAa.ok_revoke ok.tree e s;have f1:=fAa.fine_revoke ok.tree ok.fine e s;have len1:(fAa.revoke k.caps e s).1.1.length <= 32/\∀ p ∈ (fAa.revoke k.caps e s).1.1,fAa.has k.caps p.fCa p.fDa = true:=by
  unfold fAa.revoke; split
  ·exact ⟨by simp,fun p hp=>by cases hp⟩
  ·have:=all_len (fun _ _ c=>fAa.under k.caps c ⟨e,s⟩) k.caps 0 ok.tree.row;have:=ok.tree.len;exact ⟨by show (fAa.below k.caps e s).length <= 32; unfold fAa.below; omega,fun p hp=>((fAa.mem_below ok.tree).1 hp).1⟩
 have len2:(fAa.drop (fAa.revoke k.caps e s).2 e s).1.1.length <= 32/\∀ p ∈ (fAa.drop (fAa.revoke k.caps e s).2 e s).1.1,fAa.has k.caps p.fCa p.fDa = true:=by
  unfold fAa.drop; split
  ·exact ⟨by simp,fun p hp=>by cases hp⟩
  ·have:=all_len (fun a b c=>aH.eqb ⟨a,b⟩ ⟨e,s⟩ || fAa.under (fAa.revoke k.caps e s).2 c ⟨e,s⟩) (fAa.revoke k.caps e s).2 0 o1.row;have:=o1.len;refine ⟨by show (fAa.own (fAa.revoke k.caps e s).2 e s).length <= 32; unfold fAa.own; omega,fun p hp=>?_⟩;have:=((fAa.mem_own o1).1 hp).1;unfold fAa.has at this ⊢;rw [fAa.revoke_len] at this;exact this
 refine wE _ _ _ _ ?_;unfold px;refine cO (bq z.pc st (i:=0) rfl rfl rfl ?_);refine bM (kG z.pc k.caps e s) (i:=5) rfl st fun c h2 hc s2=>?_;subst hc;refine bq z.pc s2 (i:=0) rfl rfl rfl ?_;refine cl_p (sp_caps_Revoke z.pc k.caps e s) (i:=5) rfl s2 fun r h3 hr s3=>?_;unfold iq;refine aY (fun d=>?_) (fun d=>?_)
 ·have d':w = true/\r.2 = 0:=by simpa using d
  have hno:¬ (fAa.revoke k.caps e s).1.2 ≠ 0:=by rw [← hr]; simp [d'.2]
  obtain ⟨rfl,d2⟩:=d';have e1:PK.revoke k e s true = (⟨0,u64.wrap ((fAa.revoke k.caps e s).1.1++(fAa.drop (fAa.revoke k.caps e s).2 e s).1.1).length⟩,
   PK.gone { k with caps:=(fAa.drop (fAa.revoke k.caps e s).2 e s).2 } (fAa.at_ k.caps e s).1.fEa ((fAa.revoke k.caps e s).1.1++(fAa.drop (fAa.revoke k.caps e s).2 e s).1.1)):=by unfold PK.revoke; rw [if_neg hno,if_pos rfl]
  rw [e1];refine bq z.pc s3 (i:=1) rfl rfl rfl ?_;refine cl_p (sp_caps_Drop z.pc _ e s) (i:=6) rfl s3 fun r4 h4 hr4 s4=>?_;refine uG (τ:=bX) (i:=1) (j:=0) (enc:=aH.C) (ys:=(fAa.drop (fAa.revoke k.caps e s).2 e s).1.1) uD uD.sl wW place_one s4 rfl rfl (by omega) (by omega) (by omega) fun v h5 s5=>?_;refine dx (by simp [d2]) ?_;refine revoke_loop _ (ok_caps ok (by rw [fAa.drop_len,fAa.revoke_len]) (fAa.ok_drop o1 _ _) (fAa.fine_drop o1 f1 _ _)) h1 ?_ (by simp; omega) (bY (l:=[vP r4.1 (fAa.drop (fAa.revoke k.caps e s).2 e s).1.1]) s5) fun h' s'=>ba rfl s';intro p hp;unfold fAa.has;simp only [fAa.drop_len,fAa.revoke_len];rcases List.mem_append.1 hp with hp | hp
  ·exact len1.2 p hp
  ·exact len2.2 p hp
 ·refine aY (fun d2=>?_) (fun d2=>?_)
  ·have d2':(fAa.revoke k.caps e s).1.2 ≠ 0:=by rw [← hr]; simpa using d2
   have e1:PK.revoke k e s w = (⟨(fAa.revoke k.caps e s).1.2,0⟩,k):=if_pos d2';rw [e1];rw [(revoke_no d2').1] at s3;exact ba (by rw [hr]) (dl h1 ok (bY (l:=[vP r.1 _]) s3))
  ·have d2':¬ (fAa.revoke k.caps e s).1.2 ≠ 0:=by rw [← hr]; simpa using d2
   have hw:w = false:=by
    cases w with
    | false=>rfl
    | true=>simp at d d2; exact absurd d2 d
   subst hw;have e1:PK.revoke k e s false = (⟨0,u64.wrap (fAa.revoke k.caps e s).1.1.length⟩,PK.gone { k with caps:=(fAa.revoke k.caps e s).2 } (fAa.at_ k.caps e s).1.fEa (fAa.revoke k.caps e s).1.1):=by unfold PK.revoke; rw [if_neg d2',if_neg Bool.false_ne_true]
   rw [e1];refine revoke_loop _ (ok_caps ok (by rw [fAa.revoke_len]) o1 f1) h1 ?_ (by omega) s3 fun h' s'=>ba rfl s';intro p hp;unfold fAa.has;simp only [fAa.revoke_len];exact len1.2 p hp
theorem sp_plain_maps (x:Ptr) (k:PK) (e pg s r:Int) (he:PK.off k e = false):Sp prog nu [pv x,.int .i64 e,.int .i64 pg,.int .i64 s,.int .i64 r] bj [bu x k] (fun v=>pa_ (v = (PK.maps k e pg s r).1) [bu x (PK.maps k e pg s r).2]):=by
 intro h s0;obtain ⟨z,rfl,h1,ok,hl,st⟩:=gi s0;have ok2:=ok_maps ok e pg s r;obtain ⟨n,rfl,hn⟩:=off_nat ok he;have hn':n < z.tp.length:=by omega
 have ht:PK.tab k (n:Int) = k.tabs[n]:=(tab_of ok hn).1;refine sim_plain_Kernel_maps _ _ _ _ _ ?_;unfold rG;refine cO (bq z.pc st (i:=0) rfl rfl rfl ?_);refine bM (kG z.pc k.caps n s) (i:=5) rfl st fun c h2 hc s2=>?_;subst hc;refine aY (fun d=>?_) (fun d=>?_)
 ·have d':(fAa.at_ k.caps n s).2 = false:=by simpa using d
  have e1:PK.maps k n pg s r = (3,k):=if_pos d';rw [e1]; exact ba rfl (dl h1 ok s2)
 ·have d':¬ (fAa.at_ k.caps n s).2 = false:=by simpa using d
  refine bq z.ts s2 (i:=0) rfl rfl rfl ?_;refine dk s2 (j:=2) rfl (by omega) (by omega) fun q hq=>?_;refine dD (j:=2) (i:=n) (k:=0) z.tp[n] iz s2 rfl hq (by simp) (aF hn') (by simp) ?_;have s3:=jT (aF hn') (aF hn) (bd [3] s2 rfl);refine bM (oF z.tp[n] k.tabs[n] pg) (i:=0) rfl s3 fun v h4 hv s4=>?_;subst hv;have back:∀ h,aB (di z.tp[n] k.tabs[n]::but di z.tp k.tabs n::blk z.b cL (ra k.s z)::iV z.pm k.m::vQ eL z.ts z.tp::gu z.pp k.pool::cU z.pc k.caps::[]) h->aB [bu (some (z.b,0)) k] h :=
   fun h s=>dl h1 ok (bd [1,1,1] (xt (aF hn') (aF hn) h1 s) rfl)
  refine aY (fun d2=>?_) (fun d2=>?_)
  ·have e1:PK.maps k n pg s r = (4,k):=by unfold PK.maps; rw [if_neg d',ht,if_pos d2]
   rw [e1]; exact ba rfl (back _ s4)
  ·have d2':¬ (Table.get k.tabs[n] pg).2 = true:=by rw [d2]; exact Bool.false_ne_true
   refine aY (fun d3=>?_) (fun d3=>?_)
   ·have e1:PK.maps k n pg s r = (5,k):=by unfold PK.maps; rw [if_neg d',ht,if_neg d2',if_pos (by simpa using d3)]
    rw [e1]; exact ba rfl (back _ s4)
   ·have e1:PK.maps k n pg s r = ((Table.insert k.tabs[n] pg ⟨(fAa.at_ k.caps n s).1.fEa,s,r⟩).1,{ k with tabs:=k.tabs.set n (Table.insert k.tabs[n] pg ⟨(fAa.at_ k.caps n s).1.fEa,s,r⟩).2 }):=by
     unfold PK.maps; rw [if_neg d',ht,if_neg d2',if_neg (by simpa using d3)]; rfl
    rw [e1] at ok2 ⊢;refine bq z.ts s4 (i:=2) rfl rfl rfl ?_;refine dk s4 (j:=4) rfl (by omega) (by omega) fun q2 hq2=>?_;refine dD (j:=4) (i:=n) (k:=0) z.tp[n] iz s4 rfl hq2 (by simp) (aF hn') (by simp) ?_;refine bM (kY z.tp[n] k.tabs[n] pg ⟨(fAa.at_ k.caps n s).1.fEa,s,r⟩) (i:=0) rfl s4 fun v h5 hv s5=>?_;subst hv;exact ba rfl (dl (k:={ k with tabs:=_ }) (by simpa using h1) ok2 (bd [1,1,1] (yD (aF hn') hn h1 s5) rfl))
theorem sp_plain_protect (x:Ptr) (k:PK) (e pg r:Int) (he:PK.off k e = false):Sp prog kM [pv x,.int .i64 e,.int .i64 pg,.int .i64 r] bj [bu x k] (fun v=>pa_ (v = (PK.protect k e pg r).1) [bu x (PK.protect k e pg r).2]):=by
 intro h s0;obtain ⟨z,rfl,h1,ok,hl,st⟩:=gi s0;have ok2:=ok_protect ok e pg r;obtain ⟨n,rfl,hn⟩:=off_nat ok he;have hn':n < z.tp.length:=by omega
 have ht:PK.tab k (n:Int) = k.tabs[n]:=(tab_of ok hn).1;refine wd _ _ _ _ ?_;unfold oH;refine cO (bq z.ts st (i:=0) rfl rfl rfl ?_);refine dk st (j:=2) rfl (by omega) (by omega) fun q hq=>?_;refine dD (j:=2) (i:=n) (k:=0) z.tp[n] iz st rfl hq (by simp) (aF hn') (by simp) ?_;have s3:=jT (aF hn') (aF hn) (bd [3] st rfl);refine bM (oF z.tp[n] k.tabs[n] pg) (i:=0) rfl s3 fun v h4 hv s4=>?_;subst hv;have back:∀ h,aB (di z.tp[n] k.tabs[n]::but di z.tp k.tabs n::blk z.b cL (ra k.s z)::iV z.pm k.m::vQ eL z.ts z.tp::gu z.pp k.pool::cU z.pc k.caps::[]) h->aB [bu (some (z.b,0)) k] h :=
  fun h s=>dl h1 ok (bd [1,1,1] (xt (aF hn') (aF hn) h1 s) rfl)
 refine aY (fun d=>?_) (fun d=>?_)
 ·have e1:PK.protect k n pg r = (3,k):=by unfold PK.protect; rw [ht,if_pos (by simpa using d)]
  rw [e1]; exact ba rfl (back _ s4)
 ·have d':¬ (Table.get k.tabs[n] pg).2 = false:=by simpa using d
  refine bq z.pc s4 (i:=2) rfl rfl rfl ?_;refine bM (kG z.pc k.caps n _) (i:=6) rfl s4 fun c h5 hc s5=>?_;subst hc;refine aY (fun d2=>?_) (fun d2=>?_)
  ·have e1:PK.protect k n pg r = (5,k):=by unfold PK.protect; rw [ht,if_neg d',if_pos (by simpa using d2)]
   rw [e1]; exact ba rfl (back _ s5)
  ·have e1:PK.protect k n pg r = ((Table.protect k.tabs[n] pg r).1,{ k with tabs:=k.tabs.set n (Table.protect k.tabs[n] pg r).2 }):=by
    unfold PK.protect; rw [ht,if_neg d',if_neg (by simpa using d2)]; rfl
   rw [e1] at ok2 ⊢;refine bq z.ts s5 (i:=2) rfl rfl rfl ?_;refine dk s5 (j:=4) rfl (by omega) (by omega) fun q2 hq2=>?_;refine dD (j:=4) (i:=n) (k:=0) z.tp[n] iz s5 rfl hq2 (by simp) (aF hn') (by simp) ?_;refine bM (sp_table_Protect z.tp[n] k.tabs[n] pg r) (i:=0) rfl s5 fun v h6 hv s6=>?_;subst hv;exact ba rfl (dl (k:={ k with tabs:=_ }) (by simpa using h1) ok2 (bd [1,1,1] (yD (aF hn') hn h1 s6) rfl))
theorem sp_plain_sleep (x:Ptr) (k:PK) (e:Int) (c:cK):Sp prog mg [pv x,.int .i64 e,.agg c.C.toArray] bb [bu x k] (fun v=>pa_ (v = PK.sleep k e c) [bu x k]):=by
 intro h s0;obtain ⟨z,rfl,h1,ok,hl,st⟩:=gi s0;refine xJ _ _ _ ?_;unfold qn;refine cO (bq z.pc st (i:=0) rfl rfl rfl ?_);refine bM (kG z.pc k.caps e _) (i:=5) rfl st fun v h2 hv s2=>?_;subst hv;refine aY (fun d=>?_) (fun d=>?_)
 ·exact ba (by unfold PK.sleep; rw [if_pos (by simpa using d)]; rfl) (dl h1 ok s2)
 ·refine aY (fun d2=>?_) (fun d2=>?_)
  ·exact ba (by unfold PK.sleep; rw [if_neg (by simpa using d),if_pos (by simpa using d2)]; rfl) (dl h1 ok s2)
  ·refine bq z.pm s2 (i:=0) rfl rfl rfl ?_;refine bM (rD z.pm k.m _ _) (i:=1) rfl s2 fun v h3 hv s3=>?_;subst hv;refine aY (fun d3=>?_) (fun d3=>?_)
   ·exact ba (by unfold PK.sleep; rw [if_neg (by simpa using d),if_neg (by simpa using d2),if_pos (by simpa using d3)]) (dl h1 ok s3)
   ·exact ba (by unfold PK.sleep; rw [if_neg (by simpa using d),if_neg (by simpa using d2),if_neg (by simpa using d3)]) (dl h1 ok s3)
theorem sp_plain_user (x:Ptr) (k:PK) (e:Int) (c:cK) (he:PK.off k e = false):Sp prog ns [pv x,.int .i64 e,.agg c.C.toArray] iB [bu x k] (fun v=>pa_ (v = (PK.user k e c).1) [bu x (PK.user k e c).2]):=by
 intro h s0;obtain ⟨z,rfl,h1,ok,hl,st⟩:=gi s0;obtain ⟨n,rfl,hn⟩:=off_nat ok he;have hn':n < z.tp.length:=by omega
 have ht:PK.tab k (n:Int) = k.tabs[n]:=(tab_of ok hn).1;refine sim_plain_Kernel_user _ _ _ ?_;unfold rE;refine cO (bq z.ts st (i:=0) rfl rfl rfl ?_);refine dk st (j:=2) rfl (by omega) (by omega) fun q hq=>?_;refine dD (j:=2) (i:=n) (k:=0) z.tp[n] iz st rfl hq (by simp) (aF hn') (by simp) ?_;have s3:=jT (aF hn') (aF hn) (bd [3] st rfl);refine bM (oF z.tp[n] k.tabs[n] _) (i:=0) rfl s3 fun v h4 hv s4=>?_;subst hv;have s5:aB [bu (some (z.b,0)) k] h4:=dl h1 ok (bd [1,1,1] (xt (aF hn') (aF hn) h1 s4) rfl);refine aY (fun d=>?_) (fun d=>?_)
 ·have e1:PK.user k n c = (⟨7,0⟩,k):=by unfold PK.user; rw [ht,if_pos (by simpa using d)]
  rw [e1]; exact ba rfl s5
 ·have e1:PK.user k n c = ((PK.touch k (Table.get k.tabs[n] (i64.wrap c.e1)).1.fEa c).1.1,(PK.touch k (Table.get k.tabs[n] (i64.wrap c.e1)).1.fEa c).2):=by unfold PK.user; rw [ht,if_neg (by simpa using d)]
  rw [e1];refine bM (pn (some (z.b,0)) k _ c) (i:=0) rfl s5 fun v h6 hv s6=>?_;subst hv;exact ba rfl s6
theorem kz (x:Ptr) (k:PK) (e:Int) (c:cK):Sp prog dL [pv x,.int .i64 e,.agg c.C.toArray] bb [bu x k] (fun v=>pa_ (v = (PK.do_ k e c).1) [bu x (PK.do_ k e c).2]):=by
 intro h s0;refine sim_plain_Kernel_Do _ _ _ ?_;unfold tS;refine bM (sp_plain_off x k e) (i:=0) rfl s0 fun v h1 hv s1=>?_;subst hv;refine aY (fun d=>?_) (fun d=>?_)
 ·have e1:PK.do_ k e c = ((⟨10,0⟩,true),k):=if_pos d;rw [e1]; exact ba rfl s1
 ·have d':¬ PK.off k e = true:=by rw [d]; exact Bool.false_ne_true
  obtain ⟨z,rfl,hz,ok,hl,st⟩:=gi s1;refine cO (bq k.s.fJa st (i:=0) rfl rfl rfl ?_);refine uM (jJ c _) st fun v h2 hv st2=>?_;subst hv;have s2:=dl hz ok st2;refine aY (fun d2=>?_) (fun d2=>?_)
  ·have e1:PK.do_ k e c = ((⟨Word.check c k.s.fJa,0⟩,true),k):=by unfold PK.do_; rw [if_neg d',if_pos (by simpa using d2)]
   rw [e1]; exact ba rfl s2
  ·have e1:PK.do_ k e c = PK.does k e c:=by unfold PK.do_; rw [if_neg d',if_neg (by simpa using d2)]
   rw [e1];unfold kI;refine aY (fun c1=>?_) (fun c1=>?_)
   ·have ed:PK.does k e c = PK.errs (PK.alloc k e (i64.wrap c.e1)):=by unfold PK.does; rw [if_pos (by simpa using c1)]
    rw [ed];exact bM (sp_plain_alloc (some (z.b,0)) k e _) (i:=0) rfl s2 fun v h3 hv s3=>ba (by rw [hv]; rfl) s3
   refine aY (fun c2=>?_) (fun c2=>?_)
   ·have ed:PK.does k e c = PK.errs (PK.derive k e (i64.wrap c.e1) e (i64.wrap c.e2) (i64.wrap c.e3)):=by unfold PK.does; rw [if_neg (by simpa using c1),if_pos (by simpa using c2)]
    rw [ed];exact bM (sp_plain_derive (some (z.b,0)) k e _ _ _ _) (i:=0) rfl s2 fun v h3 hv s3=>ba (by rw [hv]; rfl) s3
   refine aY (fun c3=>?_) (fun c3=>?_)
   ·have ed:PK.does k e c = PK.errs (PK.derive k e (i64.wrap c.e1) (i64.wrap c.e2) (i64.wrap c.e3) (i64.wrap c.e4)):=by unfold PK.does; rw [if_neg (by simpa using c1),if_neg (by simpa using c2),if_pos (by simpa using c3)]
    rw [ed];exact bM (sp_plain_derive (some (z.b,0)) k e _ _ _ _) (i:=0) rfl s2 fun v h3 hv s3=>ba (by rw [hv]; rfl) s3
   refine aY (fun c4=>?_) (fun c4=>?_)
   ·have ed:PK.does k e c = (((PK.revoke k e (i64.wrap c.e1) true).1,true),(PK.revoke k e (i64.wrap c.e1) true).2):=by unfold PK.does; rw [if_neg (by simpa using c1),if_neg (by simpa using c2),if_neg (by simpa using c3),if_pos (by simpa using c4)]
    rw [ed];exact bM (sp_plain_revoke (some (z.b,0)) k e _ _) (i:=0) rfl s2 fun v h3 hv s3=>ba (by rw [hv]) s3
   refine aY (fun c5=>?_) (fun c5=>?_)
   ·have ed:PK.does k e c = (((PK.revoke k e (i64.wrap c.e1) false).1,true),(PK.revoke k e (i64.wrap c.e1) false).2):=by unfold PK.does; rw [if_neg (by simpa using c1),if_neg (by simpa using c2),if_neg (by simpa using c3),if_neg (by simpa using c4),if_pos (by simpa using c5)]
    rw [ed];exact bM (sp_plain_revoke (some (z.b,0)) k e _ _) (i:=0) rfl s2 fun v h3 hv s3=>ba (by rw [hv]) s3
   refine aY (fun c6=>?_) (fun c6=>?_)
   ·have ed:PK.does k e c = PK.errs (PK.maps k e (i64.wrap c.e1) (i64.wrap c.e2) (i64.wrap c.e3)):=by unfold PK.does; rw [if_neg (by simpa using c1),if_neg (by simpa using c2),if_neg (by simpa using c3),if_neg (by simpa using c4),if_neg (by simpa using c5),if_pos (by simpa using c6)]
    rw [ed];exact bM (sp_plain_maps (some (z.b,0)) k e _ _ _ d) (i:=0) rfl s2 fun v h3 hv s3=>ba (by rw [hv]; rfl) s3
   refine aY (fun c7=>?_) (fun c7=>?_)
   ·have ed:PK.does k e c = PK.errs (PK.remove k e (i64.wrap c.e1)):=by unfold PK.does; rw [if_neg (by simpa using c1),if_neg (by simpa using c2),if_neg (by simpa using c3),if_neg (by simpa using c4),if_neg (by simpa using c5),if_neg (by simpa using c6),if_pos (by simpa using c7)]
    rw [ed];obtain ⟨n,rfl,hn⟩:=off_nat ok d;have hn':n < z.tp.length:=by omega
    have ht:PK.tab k (n:Int) = k.tabs[n]:=(tab_of ok hn).1;have ok2:=ok_remove ok n (i64.wrap c.e1);refine bq z.ts st2 (i:=0) rfl rfl rfl ?_;refine dk st2 (j:=2) rfl (by omega) (by omega) fun q hq=>?_;refine dD (j:=2) (i:=n) (k:=0) z.tp[n] iz st2 rfl hq (by simp) (aF hn') (by simp) ?_;have s3:=jT (aF hn') (aF hn) (bd [3] st2 rfl);refine bM (sp_table_Remove z.tp[n] k.tabs[n] _) (i:=0) rfl s3 fun v h4 hv s4=>?_;subst hv;unfold PK.errs PK.remove;unfold PK.remove at ok2;rw [ht] at ok2 ⊢;exact ba rfl (dl (k:={ k with tabs:=_ }) (by simpa using hz) ok2 (bd [1,1,1] (yD (aF hn') hn hz s4) rfl))
   refine aY (fun c8=>?_) (fun c8=>?_)
   ·have ed:PK.does k e c = PK.errs (PK.protect k e (i64.wrap c.e1) (i64.wrap c.e2)):=by unfold PK.does; rw [if_neg (by simpa using c1),if_neg (by simpa using c2),if_neg (by simpa using c3),if_neg (by simpa using c4),if_neg (by simpa using c5),if_neg (by simpa using c6),if_neg (by simpa using c7),if_pos (by simpa using c8)]
    rw [ed];exact bM (sp_plain_protect (some (z.b,0)) k e _ _ d) (i:=0) rfl s2 fun v h3 hv s3=>ba (by rw [hv]; rfl) s3
   refine aY (fun c9=>?_) (fun c9=>?_)
   ·have ed:PK.does k e c = (PK.sleep k e c,k):=by unfold PK.does; rw [if_neg (by simpa using c1),if_neg (by simpa using c2),if_neg (by simpa using c3),if_neg (by simpa using c4),if_neg (by simpa using c5),if_neg (by simpa using c6),if_neg (by simpa using c7),if_neg (by simpa using c8),if_pos (by simpa using c9)]
    rw [ed];exact bM (sp_plain_sleep (some (z.b,0)) k e c) (i:=0) rfl s2 fun v h3 hv s3=>ba (by rw [hv]) s3
   refine aY (fun c10=>?_) (fun c10=>?_)
   ·have ed:PK.does k e c = ((⟨0,0⟩,true),k):=by unfold PK.does; rw [if_neg (by simpa using c1),if_neg (by simpa using c2),if_neg (by simpa using c3),if_neg (by simpa using c4),if_neg (by simpa using c5),if_neg (by simpa using c6),if_neg (by simpa using c7),if_neg (by simpa using c8),if_neg (by simpa using c9),if_pos (by simpa using c10)]
    rw [ed];exact ba rfl s2
   have ed:PK.does k e c = (((PK.user k e c).1,true),(PK.user k e c).2):=by unfold PK.does; rw [if_neg (by simpa using c1),if_neg (by simpa using c2),if_neg (by simpa using c3),if_neg (by simpa using c4),if_neg (by simpa using c5),if_neg (by simpa using c6),if_neg (by simpa using c7),if_neg (by simpa using c8),if_neg (by simpa using c9),if_neg (by simpa using c10)]
   rw [ed];exact bM (sp_plain_user (some (z.b,0)) k e c d) (i:=0) rfl s2 fun v h3 hv s3=>ba (by rw [hv]) s3
theorem sp_plain_Free (x:Ptr) (k:PK):Sp prog nv [pv x] cJ [bu x k] (fun r=>aB [vI r (Pool.free k.pool),bu x k]):=by
 intro h s0;obtain ⟨z,rfl,h1,ok,hl,st⟩:=gi s0;refine sim_plain_Kernel_Free _ ?_;unfold rH;refine dx rfl (cO (bq z.pp st (i:=0) rfl rfl rfl ?_));refine xo (sp_pool_Free z.pp k.pool) (i:=4) rfl st fun v h2 s2=>?_;exact star_tail s2 fun h3 s3=>dl h1 ok s3
theorem new_eq (s:eR) (n:Nat) (hn:s.fJa = n) (m:Nat) (hm:s.fCb = m):PK.new s = ⟨s,replicate m (replicate 16 0),replicate n (replicate 8 dc),replicate m 0,replicate n (replicate 8 mF)⟩:=by
 unfold PK.new; rw [hn,hm]; rfl
theorem tc (s:eR) (hs:PK.sized s = true):Sp prog oK [.agg s.C.toArray] dY [] (fun r=>aB [bu r (PK.new s)]):=by
 intro h st;refine sim_plain_New _ ?_;unfold sh_plain_New;refine dx ?_ ?_
 ·unfold PK.sized at hs; simpa using hs
 ·skip
  have hs':=fV.1 hs;have okn:=ok_new hs;obtain ⟨n,hn⟩:=Int.eq_ofNat_of_zero_le (show 0 <= s.fJa by omega);obtain ⟨m,hm⟩:=Int.eq_ofNat_of_zero_le (show 0 <= s.fCb by omega);rw [new_eq s n hn m hm] at okn ⊢;refine mD (sp_mem_New s.fCb (by omega) (by omega)) st fun pm h1 s1=>?_;refine mD (sp_pool_New s.fCb (by omega) (by omega)) s1 fun pp h2 s2=>?_;refine mD (sp_caps_New s.fJa (by omega) (by omega)) s2 fun pc h3 s3=>?_;refine pL s3 fun b h4 s4=>?_;have s5:=gg (τ:=Ptr) (T:=eL) (m:=1) (enc:=cP) (all_nil (A:=di) s4);simp only [hn,hm,toNat_natCast] at s5;refine Lp.intro (fun (i:Int) h=>∃ (j:Nat) (ts:Sl) (tp:List Ptr),i = j/\j <= n/\tp.length = j/\aB [vQ eL ts tp,all di tp (replicate j (replicate 8 dc)),blk b cL (ra s ⟨b,pm,ts,tp,pp,pc⟩),cU pc (replicate n (replicate 8 mF)),gu pp (replicate m 0),iV pm (replicate m (replicate 16 0))] h) (fun (i:Int) _=>n - i.toNat) ⟨0,⟨none,0,0,none⟩,[],rfl,zero_le _,rfl,?_⟩ ?_
  ·have:ra s ⟨b,pm,⟨none,0,0,none⟩,[],pp,pc⟩ = gM.C (⟨s,pm,(⟨none,0,0,none⟩:Sl),pp,pc⟩:gM):=rfl;rw [this]; exact s5
  ·rintro i h ⟨j,ts,tp,rfl,hj,htp,s6⟩;unfold yb;refine aY (fun d2=>?_) (fun d2=>?_)
   ·have hlt:j < n:=by rw [hn] at d2; simpa using d2
    have hw:i64.wrap ((j:Int) + 1) = ((j + 1:Nat):Int):=by rw [bm (by omega) (by omega)]; rfl
    have fin:∀ (r53:Ptr) (v55:Sl) (h:Hp),aB [vQ eL v55 (tp++[r53]),di r53 (replicate 8 dc),all di tp (replicate j (replicate 8 dc)),blk b cL (ra s ⟨b,pm,ts,tp,pp,pc⟩),cU pc (replicate n (replicate 8 mF)),gu pp (replicate m 0),iV pm (replicate m (replicate 16 0))] h ->
      Mb.st (b,4) [sv v55] (fun h=>(∃ (j':Nat) (ts:Sl) (tp:List Ptr),((j + 1:Nat):Int) = j'/\j' <= n/\tp.length = j'/\aB [vQ eL ts tp,all di tp (replicate j' (replicate 8 dc)),blk b cL (ra s ⟨b,pm,ts,tp,pp,pc⟩),cU pc (replicate n (replicate 8 mF)),gu pp (replicate m 0),iV pm (replicate m (replicate 16 0))] h)/\n - ((j + 1:Nat):Int).toNat < n - (j:Int).toNat) h:=by
     intro r53 v55 h s7;refine vZ (i:=3) s7 rfl (show 4 + 1 <= 7 by decide) fun h8 s8=>?_;refine ⟨⟨j + 1,v55,tp++[r53],rfl,hlt,by simp [htp],?_⟩,by simp; omega⟩;have s9:=all_push (by simp [htp]) (bd [1,1] s8 rfl);have e:replicate j (replicate 8 dc)++[replicate 8 dc] = replicate (j + 1) (replicate 8 dc):=List.replicate_succ'.symm;rw [e] at s9;exact bd [1] s9 rfl
    rw [hw];refine ⟨?_,?_⟩
    ·refine bq ts s6 (i:=2) rfl rfl rfl ?_;refine mD pj s6 fun r53 h7 s7=>?_;refine lr (τ:=Ptr) (i:=1) (enc:=cP) (val:=fun x=>pv x) xl iz cP_one (fun _=>rfl) (by omega) rfl rfl s7 rfl (by omega) (by omega) fun v h8 s8=>?_;exact fin r53 v h8 (bd [1] s8 rfl)
    ·refine mD pj s6 fun r53 h7 s7=>?_;refine bq ts s7 (i:=3) rfl rfl rfl ?_;refine lr (τ:=Ptr) (i:=1) (enc:=cP) (val:=fun x=>pv x) xl iz cP_one (fun _=>rfl) (by omega) rfl rfl s7 rfl (by omega) (by omega) fun v h8 s8=>?_;exact fin r53 v h8 (bd [1] s8 rfl)
   ·have:j = n:=by rw [hn] at d2; simp at d2; omega
    subst this;refine dl (z:=⟨b,pm,ts,tp,pp,pc⟩) ?_ okn (bd [2,4,0,0,1] s6 rfl);simpa using htp
end
section
open Go Mb
theorem sp_plain_more (zb ob:Nat) (kc oc:List Value) (ts:Sl) (pc po:Ptr) (t o:fAa.T) (h4:kc[4]? = some (sv ts)) (h6:kc[6]? = some (pv pc)) (o6:oc[6]? = some (pv po)) (hl:ts.len = o.length) (hb:o.length <= 4) :
  Sp prog nt [pv (some (zb,0)),pv (some (ob,0))] aC [blk zb cL kc,cU pc t,blk ob cL oc,cU po o]
   (fun r=>pa_ (r = (fAa.moreE o o.length (false,t)).1) [blk zb cL kc,cU pc (fAa.moreE o o.length (false,t)).2,blk ob cL oc,cU po o]):=by
 intro h s0;refine sim_plain_Kernel_more _ _ ?_;unfold rF;refine cO (bq ts s0 (i:=0) rfl rfl h4 ?_);refine Lp.intro (fun (z:Bool × Int) h=>∃ m:Nat,z.2 = m/\m <= o.length/\z.1 = (fAa.moreE o m (false,t)).1/\aB [blk zb cL kc,cU pc (fAa.moreE o m (false,t)).2,blk ob cL oc,cU po o] h) (fun (z:Bool × Int) _=>o.length - z.2.toNat) ⟨0,rfl,zero_le _,rfl,s0⟩ ?_;rintro ⟨b,i⟩ h ⟨m,rfl,hm,rfl,s1⟩;unfold lZ;refine aY (fun k=>?_) (fun k=>?_)
 ·have hlt:m < o.length:=by rw [hl] at k; simpa using k
  have hw:i64.wrap ((m:Int) + 1) = ((m + 1:Nat):Int):=by rw [bm (by omega) (by omega)]; rfl
  refine Lp.intro (fun (z:Bool × Int) h=>∃ j:Nat,z.2 = j/\j <= 8/\z.1 = (fAa.moreS o m j (fAa.moreE o m (false,t))).1/\aB [blk zb cL kc,cU pc (fAa.moreS o m j (fAa.moreE o m (false,t))).2,blk ob cL oc,cU po o] h) (fun (z:Bool × Int) _=>8 - z.2.toNat) ⟨0,rfl,zero_le _,rfl,s1⟩ ?_;rintro ⟨b,i⟩ h ⟨j,rfl,hj,rfl,s2⟩;unfold lY;refine aY (fun k2=>?_) (fun k2=>?_)
  ·have hlt2:j < 8:=by have:=of_decide_eq_true k2; simp at this; omega
   have hw2:i64.wrap ((j:Int) + 1) = ((j + 1:Nat):Int):=by rw [bm (by omega) (by omega)]; rfl
   have es:fAa.moreS o m (j + 1) (fAa.moreE o m (false,t)) = ((fAa.moreS o m j (fAa.moreE o m (false,t))).1 || (fAa.more1 o (fAa.moreS o m j (fAa.moreE o m (false,t))).2 m j).1,(fAa.more1 o (fAa.moreS o m j (fAa.moreE o m (false,t))).2 m j).2):=rfl;generalize hst:fAa.moreS o m j (fAa.moreE o m (false,t)) = st at *
   refine cO (bq po s2 (i:=2) rfl rfl o6 ?_);refine bM (kG po o m j) (i:=3) rfl s2 fun r h3 hr s3=>?_;subst hr;refine bq pc s3 (i:=0) rfl rfl h6 ?_;refine bM (kG pc st.2 m j) (i:=1) rfl s3 fun r h4 hr s4=>?_;subst hr;rw [hw2];refine aY (fun k3=>?_) (fun k3=>?_)
   ·have k3':(fAa.at_ o m j).2 = false\/(fAa.at_ st.2 m j).2 = true:=by simpa using k3
    have e1:fAa.more1 o st.2 m j = (false,st.2):=if_pos k3';refine ⟨⟨j + 1,rfl,hlt2,?_,?_⟩,by simp; omega⟩
    ·rw [es,e1]; simp
    ·rw [es,e1]; exact s4
   ·have k3':¬ ((fAa.at_ o m j).2 = false\/(fAa.at_ st.2 m j).2 = true):=by simp at k3; simp [k3]
    refine aY (fun k4=>?_) (fun k4=>?_)
    ·have e1:fAa.more1 o st.2 m j = ((fAa.root st.2 m j (fAa.at_ o m j).1.fEa).1 == 0,(fAa.root st.2 m j (fAa.at_ o m j).1.fEa).2):=by unfold fAa.more1; rw [if_neg k3',if_pos (by simpa using k4)]
     refine bq pc s4 (i:=0) rfl rfl h6 ?_;refine bM (xG pc st.2 m j _) (i:=1) rfl s4 fun r h5 hr s5=>?_;subst hr;refine ⟨⟨j + 1,rfl,hlt2,?_,?_⟩,by simp; omega⟩
     ·rw [es,e1]
     ·rw [es,e1]; exact s5
    ·have e1:fAa.more1 o st.2 m j = ((fAa.derive st.2 (fAa.at_ o m j).1.fCa (fAa.at_ o m j).1.fDa m j (fAa.at_ o m j).1.fBa).1 == 0,(fAa.derive st.2 (fAa.at_ o m j).1.fCa (fAa.at_ o m j).1.fDa m j (fAa.at_ o m j).1.fBa).2):=by unfold fAa.more1; rw [if_neg k3',if_neg (by simpa using k4)]
     refine bq pc s4 (i:=0) rfl rfl h6 ?_;refine bM (tQ pc st.2 _ _ m j _) (i:=1) rfl s4 fun r h5 hr s5=>?_;subst hr;refine ⟨⟨j + 1,rfl,hlt2,?_,?_⟩,by simp; omega⟩
     ·rw [es,e1]
     ·rw [es,e1]; exact s5
  ·have:j = 8:=by have:=of_decide_eq_false k2; simp at this; omega
   subst this;rw [hw];exact ⟨⟨m + 1,rfl,hlt,rfl,s2⟩,by simp; omega⟩
 ·have:m = o.length:=by rw [hl] at k; simp at k; omega
  subst this;exact ba rfl s1
section
variable {α:Type}
def fO (xs:List α) (d:α) (n:Nat):List α:=xs.take n++replicate (xs.length - n) d
theorem mixd_len (xs:List α) (d:α) {n:Nat} (h:n <= xs.length):(fO xs d n).length = xs.length:=by simp [fO]; omega
theorem tH (xs:List α) (d:α):fO xs d 0 = replicate xs.length d:=by simp [fO]
theorem xd (xs:List α) (d:α):fO xs d xs.length = xs:=by simp [fO]
theorem mixd_get (xs:List α) (d:α) {n:Nat} (h:n < xs.length):(fO xs d n)[n]? = some d:=by
 unfold fO;rw [List.getElem?_append_right (by simp; omega),List.getElem?_replicate,if_pos (by simp; omega)]
theorem rO (xs:List α) (d:α) {n:Nat} (h:n < xs.length):(fO xs d n).set n xs[n] = fO xs d (n + 1):=by
 unfold fO;rw [List.set_append_right _ _ (by simp; omega)];have e1:n - (xs.take n).length = 0:=by simp; omega
 have e2:xs.length - n = (xs.length - (n + 1)) + 1:=by omega
 rw [e1,e2,List.replicate_succ,List.set_cons_zero];have e3:xs.take (n + 1) = xs.take n++[xs[n]]:=by simp
 rw [e3,List.append_assoc]; rfl
end
theorem put_ok {p:Pte} (h:PteFine p) (h0:p.fBa ≠ 0):(fw p).2 = true:=by
 rcases h with h | ⟨h1,h2,h3,h4,h5⟩
 ·rw [h] at h0; exact absurd rfl h0
 ·unfold fw;have e1:ao.eqb p ⟨0,0,0⟩ = false:=by
   unfold ao.eqb;have:(p.fBa == 0) = false:=by simpa using h0
   simp [this]
  have e2:(((((decide (p.fEa < 0)) || (decide (p.fEa >= 16))) || (decide (p.fDa < 0))) || (decide (p.fDa >= 8))) || (!(ch p.fBa))) = false:=by
   simp [h5]; omega
  rw [e1,e2]; rfl
theorem insert_mixd {row:List Pte} (h:qF row) {j:Nat} (hj:j < 8) (hr:row[j]?.map (·.fBa) ≠ some 0):Table.insert (fO row dc j) j (row.getD j dc) = (0,fO row dc (j + 1)):=by
 have hjl:j < row.length:=by rw [h.1]; exact hj
 have hg:row.getD j dc = row[j]:=by simp [hjl]
 rw [hg];have h0:row[j].fBa ≠ 0:=by
  intro e; apply hr; rw [List.getElem?_eq_getElem hjl]; simp [e]
 have hp:=put_ok (h.2 _ (getElem_mem hjl)) h0;have hat:Table.at_ (fO row dc j) j = dc:=by
  unfold Table.at_;rw [toNat_natCast,List.getD_eq_getElem?_getD,mixd_get row dc hjl]; rfl
 have his:bA j = true:=by unfold bA; simp; omega
 unfold Table.insert;rw [if_neg (by simp [hp,h0,his]),hat,if_neg (by simp),toNat_natCast,rO row dc hjl]
theorem idx_rep (m:Nat):∀ (f:Nat) (i:Int),fL 0 (replicate f 1++replicate (m + 1) 0) i = i + f
 | 0,i=>by simp [fL,List.replicate_succ]
 | f + 1,i=>by
  rw [List.replicate_succ,List.cons_append,fL,if_neg (by decide),idx_rep m f (i + 1)];omega
theorem take_mixd {F f:Nat} (h:f < F):(Pool.take (fO (replicate F (1:Int)) 0 f)).2.2 = fO (replicate F (1:Int)) 0 (f + 1):=by
 have hl:f < (replicate F (1:Int)).length:=by simpa using h
 have e:fO (replicate F (1:Int)) 0 f = replicate f 1++replicate ((F - f - 1) + 1) 0:=by
  unfold fO;rw [List.take_replicate,length_replicate,Nat.min_eq_left (by omega)]
  congr 2; omega
 have hi:fL 0 (fO (replicate F (1:Int)) 0 f) 0 = f:=by rw [e,idx_rep]; omega
 unfold Pool.take;rw [hi,if_neg (by omega)];have:=rO (replicate F (1:Int)) 0 hl;rw [List.getElem_replicate] at this;simpa using this
abbrev cpL (zo z:PZ) (o k:PK):List As:=plainL zo o++plainL z k
abbrev Done (z:PZ) (k:PK) (r:Ptr):As:=aB [bu r k,bu (some (z.b,0)) k]
theorem copy7 {zo z:PZ} {o k:PK} {h:Hp} (ok:PK.Ok k) (ho:zo.tp.length = k.tabs.length) (hz:z.tp.length = k.tabs.length) (es:o.s = k.s) (em:o.m = k.m) (et:o.tabs = k.tabs) (ep:o.pool = k.pool) (oko:fAa.Ok o.caps) (sb:fAa.Sub o.caps k.caps)
  (s0:aB (cpL zo z o k) h):Lp (jq (Done z k) (z.b,0) (some (zo.b,0))) () h:=by
 obtain ⟨os,om,ot,op,oc⟩:=o;simp only at es em et ep oko sb;subst es; subst em; subst et; subst ep;have hs:=fV.1 ok.sz;have hts:=(cj (j:=2) s0 rfl).1;have hcl:=ok.cl;have htl:=ok.tl;refine Lp.ghost (γ:=fAa.T) (fun c _ h=>fAa.Ok c/\fAa.Sub c k.caps/\aB (cpL zo z ⟨k.s,k.m,k.tabs,k.pool,c⟩ k) h) (fun c=>fAa.miss k.caps c) ⟨oko,sb,s0⟩ ?_;rintro c s h ⟨okc,sbc,s1⟩ R hR;have w:=fAa.way_all (n:=k.s.fCb) (by omega) ok.tree ok.fine okc sbc k.caps.length (Nat.le_refl _);unfold jq;refine cZ [0,4,4,8] (sp_plain_more zo.b z.b (ra k.s zo) (ra k.s z) zo.ts zo.pc z.pc c k.caps rfl rfl rfl (by omega) (by omega)) s1 rfl fun r h2 s2=>?_;obtain ⟨hr,s3⟩:=bt.1 s2;have s4:aB (cpL zo z ⟨k.s,k.m,k.tabs,k.pool,(fAa.moreE k.caps k.caps.length (false,c)).2⟩ k) h2:=bd [0,3,3,3,3,0,0,1,1,1,1,0] s3 rfl;refine aY (fun d=>?_) (fun d=>?_)
 ·exact hR _ () h2 ⟨w.ok,w.sub,s4⟩ (w.lt (by rw [← hr,d]))
 ·have hf:(fAa.moreE k.caps k.caps.length (false,c)).1 = false:=by rw [← hr,d]
  have hsame:=w.same hf;rw [hsame] at s4;have hc:c = k.caps:=fAa.all_there (n:=k.s.fCb) (by omega) ok.tree ok.fine okc sbc fun e s he hs=>w.no hf e s ⟨he,hs⟩;subst hc;have s5:=dl (z:=zo) (k:=k) (l:=plainL z k) ho ok s4;exact bd [1] (dl (z:=z) (k:=k) hz ok (bd [1,1,1,1,1,1] s5 rfl)) rfl
theorem copy5 {zo z:PZ} {o k:PK} {h:Hp} {x92:Sl} (ok:PK.Ok k) (ho:zo.tp.length = k.tabs.length) (hz:z.tp.length = k.tabs.length) (hx:x92.len = k.tabs.length) (es:o.s = k.s) (em:o.m = k.m) (et:o.tabs = replicate k.tabs.length (replicate 8 dc)) (ep:o.pool = k.pool) (oko:fAa.Ok o.caps) (sb:fAa.Sub o.caps k.caps)
  (s0:aB (cpL zo z o k) h):Lp (jr (Done z k) (z.b,0) (some (zo.b,0)) x92) 0 h:=by
 obtain ⟨os,om,ot,op,oc⟩:=o;simp only at es em et ep oko sb;subst es; subst em; subst et; subst ep;have hs:=fV.1 ok.sz;have htl:=ok.tl;have hzs:=(cj (j:=8) s0 rfl).1;have hos:=(cj (j:=2) s0 rfl).1;have e0:replicate k.tabs.length (replicate 8 dc) = fO k.tabs (replicate 8 dc) 0:=(tH _ _).symm;rw [e0] at s0;refine Lp.intro (fun (i:Int) h=>∃ e:Nat,i = e/\e <= k.tabs.length/\aB (cpL zo z ⟨k.s,k.m,fO k.tabs (replicate 8 dc) e,k.pool,oc⟩ k) h) (fun (i:Int) _=>k.tabs.length - i.toNat) ⟨0,rfl,zero_le _,s0⟩ ?_;rintro i h ⟨e,rfl,he,s1⟩;unfold jr;refine aY (fun d=>?_) (fun d=>?_)
 ·have hlt:e < k.tabs.length:=by rw [hx] at d; simpa using d
  have hw:i64.wrap ((e:Int) + 1) = ((e + 1:Nat):Int):=by rw [bm (by omega) (by omega)]; rfl
  have htab:qF k.tabs[e]:=ok.tr _ (getElem_mem hlt);have hml:=mixd_len k.tabs (replicate 8 dc) he;have heo:e < zo.tp.length:=by omega
  have hez:e < z.tp.length:=by omega
  have hmg:=mixd_get k.tabs (replicate 8 dc) hlt;have r0:replicate 8 dc = fO k.tabs[e] dc 0:=by rw [tH,htab.1]
  refine Lp.intro (fun (i:Int) h=>∃ j:Nat,i = j/\j <= 8/\aB (cpL zo z ⟨k.s,k.m,(fO k.tabs (replicate 8 dc) e).set e (fO k.tabs[e] dc j),k.pool,oc⟩ k) h) (fun (i:Int) _=>8 - i.toNat) ⟨0,rfl,zero_le _,?_⟩ ?_
  ·rw [← r0,jp hmg]; exact s1
  rintro i h ⟨j,rfl,hj,s2⟩;unfold ma;refine aY (fun d2=>?_) (fun d2=>?_)
  ·have hlt2:j < 8:=by have:=of_decide_eq_true d2; omega
   have hjl:j < k.tabs[e].length:=by rw [htab.1]; exact hlt2
   have hw2:i64.wrap ((j:Int) + 1) = ((j + 1:Nat):Int):=by rw [bm (by omega) (by omega)]; rfl
   have his:bA j = true:=by unfold bA; simp; omega
   have hat:Table.at_ k.tabs[e] j = k.tabs[e][j]:=by simp [Table.at_,hjl]
   refine bq z.ts s2 (i:=6) rfl rfl rfl ?_;refine dk s2 (j:=8) rfl (by omega) (by omega) fun q hq=>?_;refine dD (j:=8) (i:=e) (k:=0) z.tp[e] iz s2 rfl hq (by simp) (aF hez) (by simp) ?_;have s3:=jT (aF hez) (aF hlt) (bd [9] s2 rfl);refine bM (oF z.tp[e] k.tabs[e] j) (i:=0) rfl s3 fun r h4 hr s4=>?_;subst hr;have s5:aB (cpL zo z ⟨k.s,k.m,(fO k.tabs (replicate 8 dc) e).set e (fO k.tabs[e] dc j),k.pool,oc⟩ k) h4:=bd [1,1,1,1,1,1,1,1,1,0] (xt (aF hez) (aF hlt) hz s4) rfl;refine aY (fun d3=>?_) (fun d3=>?_)
   ·have hne:k.tabs[e][j].fBa ≠ 0:=by
     unfold Table.get at d3;split at d3
     ·rename_i hh; rw [hat] at hh; exact hh.2
     ·cases d3
    have eg:(Table.get k.tabs[e] j).1 = k.tabs[e].getD j dc:=by
     unfold Table.get; rw [hat,if_pos ⟨his,hne⟩]; simp [hjl]
    have ei:=insert_mixd htab hlt2 (by rw [List.getElem?_eq_getElem hjl]; simpa using hne);rw [eg];refine cO (bq zo.ts s5 (i:=0) rfl rfl rfl ?_);refine dk s5 (j:=2) rfl (by omega) (by omega) fun q2 hq2=>?_;refine dD (j:=2) (i:=e) (k:=0) zo.tp[e] iz s5 rfl hq2 (by simp) (aF heo) (by simp) ?_;have eI:((fO k.tabs (replicate 8 dc) e).set e (fO k.tabs[e] dc j))[e]? = some (fO k.tabs[e] dc j):=by rw [List.getElem?_set,if_pos rfl,if_pos (by rw [hml]; exact hlt)]
    have s6:=jT (aF heo) eI (bd [3] s5 rfl);refine bM (kY zo.tp[e] _ j _) (i:=0) rfl s6 fun r h7 hr s7=>?_;rw [ei] at s7;have s8:=yD (aF heo) (by rw [length_set,hml]; exact hlt) (by rw [length_set,hml]; exact ho) s7;rw [set_set] at s8;rw [hw2];exact ⟨⟨j + 1,rfl,hlt2,bd [1,1,1] s8 rfl⟩,by simp; omega⟩
   ·have hze:k.tabs[e][j] = dc:=by
     rcases htab.2 _ (getElem_mem hjl) with h | h
     ·exact h
     ·have:=vM.1 h.2.2.2.2;unfold Table.get at d3;rw [hat,if_pos ⟨his,by omega⟩] at d3; cases d3
    have hsame:fO k.tabs[e] dc j = fO k.tabs[e] dc (j + 1):=by
     rw [← rO _ _ hjl,hze,jp (mixd_get _ _ hjl)]
    rw [hsame] at s5;rw [hw2];exact ⟨⟨j + 1,rfl,hlt2,s5⟩,by simp; omega⟩
  ·have:j = 8:=by have:=of_decide_eq_false d2; omega
   subst this;have er:fO k.tabs[e] dc 8 = k.tabs[e]:=by have:=xd k.tabs[e] dc; rw [htab.1] at this; exact this
   rw [er,rO _ _ hlt] at s2;rw [hw];exact ⟨⟨e + 1,rfl,hlt,s2⟩,by simp; omega⟩
 ·have:e = k.tabs.length:=by rw [hx] at d; simp at d; omega
  subst this;rw [xd] at s1;exact copy7 (o:=⟨k.s,k.m,k.tabs,k.pool,oc⟩) ok ho hz rfl rfl rfl rfl oko sb s1
theorem refs_nat {p:List Int} {f:Nat} (h:f < p.length):Pool.refs p f = p[f]:=by
 unfold Pool.refs; rw [if_neg (by omega)]; simp [h]
theorem copy3 {zo z:PZ} {o k:PK} {h:Hp} (ok:PK.Ok k) (ho:zo.tp.length = k.tabs.length) (hz:z.tp.length = k.tabs.length) (es:o.s = k.s) (em:o.m = k.m) (et:o.tabs = replicate k.tabs.length (replicate 8 dc)) (ep:o.pool = replicate k.pool.length 1) (oko:fAa.Ok o.caps) (sb:fAa.Sub o.caps k.caps)
  (s0:aB (cpL zo z o k) h):Lp (js (Done z k) (z.b,0) (some (zo.b,0)) k.s.fCb) 0 h:=by
 obtain ⟨os,om,ot,op,oc⟩:=o;simp only at es em et ep oko sb;subst es; subst em; subst et; subst ep;have hs:=fV.1 ok.sz;have hpl:=ok.pl;rw [← tH k.pool 1] at s0;refine Lp.intro (fun (i:Int) h=>∃ f:Nat,i = f/\f <= k.pool.length/\aB (cpL zo z ⟨k.s,k.m,replicate k.tabs.length (replicate 8 dc),fO k.pool 1 f,oc⟩ k) h) (fun (i:Int) _=>k.pool.length - i.toNat) ⟨0,rfl,zero_le _,s0⟩ ?_;rintro i h ⟨f,rfl,hf,s1⟩;unfold js;refine aY (fun d=>?_) (fun d=>?_)
 ·have hlt:f < k.pool.length:=by have:=of_decide_eq_true d; omega
  have hw:i64.wrap ((f:Int) + 1) = ((f + 1:Nat):Int):=by rw [bm (by omega) (by omega)]; rfl
  have hml:=mixd_len k.pool 1 hf;have hmg:=mixd_get k.pool 1 hlt;have hr7:=ok.pr _ (getElem_mem hlt);refine bq z.pp s1 (i:=6) rfl rfl rfl ?_;refine bM (xD z.pp k.pool f) (i:=10) rfl s1 fun r h2 hr s2=>?_;rw [refs_nat hlt] at hr;subst hr;have hw0:i64.wrap (k.pool[f] - 1) = k.pool[f] - 1:=bm (by omega) (by omega);refine Lp.intro (fun (i:Int) h=>∃ j:Nat,i = j/\(j:Int) <= max 0 (k.pool[f] - 1)/\aB (cpL zo z ⟨k.s,k.m,replicate k.tabs.length (replicate 8 dc),(fO k.pool 1 f).set f (1 + (j:Int)),oc⟩ k) h) (fun (i:Int) _=>(8 - i).toNat) ⟨0,rfl,by omega,?_⟩ ?_
  ·have:(fO k.pool 1 f).set f (1 + ((0:Nat):Int)) = fO k.pool 1 f:=by
    rw [show (1:Int) + ((0:Nat):Int) = 1 from rfl,jp hmg]
   rw [this]; exact s2
  rintro i h ⟨j,rfl,hj,s3⟩;have eI:f < ((fO k.pool 1 f).set f (1 + (j:Int))).length:=by rw [length_set,hml]; exact hlt
  have hgs:((fO k.pool 1 f).set f (1 + (j:Int)))[f] = 1 + (j:Int):=by simp
  unfold mb;rw [hw0];refine aY (fun d2=>?_) (fun d2=>?_)
  ·have hlt2:(j:Int) < k.pool[f] - 1:=of_decide_eq_true d2;have hw2:i64.wrap ((j:Int) + 1) = ((j + 1:Nat):Int):=by rw [bm (by omega) (by omega)]; rfl
   refine cO (bq zo.pp s3 (i:=0) rfl rfl rfl ?_);refine bM (sp_pool_Hold zo.pp _ f) (i:=4) rfl s3 fun r h4 hr s4=>?_;have eh:(Pool.hold ((fO k.pool 1 f).set f (1 + (j:Int))) f).2 = (fO k.pool 1 f).set f (1 + ((j + 1:Nat):Int)):=by
    unfold Pool.hold;rw [refs_nat eI,hgs,if_neg (by omega),toNat_natCast,set_set,bm (by omega) (by omega)]
    congr 1 <;> omega
   rw [eh] at s4;rw [hw2];exact ⟨⟨j + 1,rfl,by omega,s4⟩,by omega⟩
  ·have hge:¬ (j:Int) < k.pool[f] - 1:=of_decide_eq_false d2;rw [hw];refine aY (fun d3=>?_) (fun d3=>?_)
   ·have h0:k.pool[f] = 0:=by simpa using d3
    have hj0:j = 0:=by omega
    subst hj0;refine cO (bq zo.pp s3 (i:=0) rfl rfl rfl ?_);refine bM (sp_pool_Let zo.pp _ f) (i:=4) rfl s3 fun r h4 hr s4=>?_;have eh:(Pool.lets ((fO k.pool 1 f).set f (1 + ((0:Nat):Int))) f).2.2 = fO k.pool 1 (f + 1):=by
     unfold Pool.lets;rw [refs_nat eI,hgs,if_neg (by omega),toNat_natCast,set_set,bm (by omega) (by omega),← rO _ _ hlt,h0]
     rfl
    rw [eh] at s4;exact ⟨⟨f + 1,rfl,hlt,s4⟩,by simp; omega⟩
   ·have h0:k.pool[f] ≠ 0:=by simpa using d3
    have ej:1 + (j:Int) = k.pool[f]:=by omega
    rw [ej,rO _ _ hlt] at s3;exact ⟨⟨f + 1,rfl,hlt,s3⟩,by simp; omega⟩
 ·have:f = k.pool.length:=by have:=of_decide_eq_false d; omega
  subst this;rw [xd] at s1;have hzs:=(cj (j:=8) s1 rfl).1;refine bq z.ts s1 (i:=6) rfl rfl rfl ?_;exact copy5 (o:=⟨k.s,k.m,replicate k.tabs.length (replicate 8 dc),k.pool,oc⟩) ok ho hz (by omega) rfl rfl rfl rfl oko sb s1
theorem frame_nat {m:List (List Int)} {f:Nat} (h:f < m.length):Mem.frame m f = m[f]:=by
 have hh:Mem.has m f 0:=⟨by omega,by omega,by omega,by omega⟩
 unfold Mem.frame;rw [if_pos hh];simp [h]
theorem copy1 {zo z:PZ} {o k:PK} {h:Hp} (ok:PK.Ok k) (ho:zo.tp.length = k.tabs.length) (hz:z.tp.length = k.tabs.length) (es:o.s = k.s) (em:o.m = replicate k.m.length (replicate 16 0)) (et:o.tabs = replicate k.tabs.length (replicate 8 dc)) (ep:o.pool = replicate k.pool.length 0) (oko:fAa.Ok o.caps) (sb:fAa.Sub o.caps k.caps)
  (s0:aB (cpL zo z o k) h):Lp (jt (Done z k) (z.b,0) (some (zo.b,0)) k.s.fCb) 0 h:=by
 obtain ⟨os,om,ot,op,oc⟩:=o;simp only at es em et ep oko sb;subst es; subst em; subst et; subst ep;have hs:=fV.1 ok.sz;have hpl:=ok.pl;have hml:=ok.ml;have hpm:k.pool.length = k.m.length:=by omega
 rw [← tH k.m] at s0;have ep0:replicate k.pool.length (0:Int) = fO (replicate k.pool.length (1:Int)) 0 0:=by rw [tH]; simp
 rw [ep0] at s0;refine Lp.intro (fun (i:Int) h=>∃ f:Nat,i = f/\f <= k.m.length/\aB (cpL zo z ⟨k.s,fO k.m (replicate 16 0) f,replicate k.tabs.length (replicate 8 dc),fO (replicate k.pool.length (1:Int)) 0 f,oc⟩ k) h) (fun (i:Int) _=>k.m.length - i.toNat) ⟨0,rfl,zero_le _,s0⟩ ?_;rintro i h ⟨f,rfl,hf,s1⟩;unfold jt;refine aY (fun d=>?_) (fun d=>?_)
 ·have hlt:f < k.m.length:=by have:=of_decide_eq_true d; omega
  have hw:i64.wrap ((f:Int) + 1) = ((f + 1:Nat):Int):=by rw [bm (by omega) (by omega)]; rfl
  have hrow:=ok.mr _ (getElem_mem hlt);have hmx:=mixd_len k.m (replicate 16 (0:Int)) hf;have hmg:=mixd_get k.m (replicate 16 (0:Int)) hlt;refine bq z.pm s1 (i:=6) rfl rfl rfl ?_;refine xo (sp_mem_Frame z.pm k.m f) (i:=7) rfl s1 fun r33 h2 s2=>?_;rw [frame_nat hlt] at s2;have hrl:=(cj (j:=0) s2 rfl).1;have r0:replicate 16 (0:Int) = fO k.m[f] 0 0:=by rw [tH,hrow]
  refine Lp.intro (fun (i:Int) h=>∃ j:Nat,i = j/\j <= 16/\aB (vU r33 k.m[f]::cpL zo z ⟨k.s,(fO k.m (replicate 16 0) f).set f (fO k.m[f] 0 j),replicate k.tabs.length (replicate 8 dc),fO (replicate k.pool.length (1:Int)) 0 f,oc⟩ k) h) (fun (i:Int) _=>16 - i.toNat) ⟨0,rfl,zero_le _,?_⟩ ?_
  ·rw [← r0,jp hmg]; exact s2
  rintro i h ⟨j,rfl,hj,s3⟩;unfold mc;refine aY (fun d2=>?_) (fun d2=>?_)
  ·have hlt2:j < 16:=by rw [hrl,hrow] at d2; have:=of_decide_eq_true d2; omega
   have hjl:j < k.m[f].length:=by omega
   have hw2:i64.wrap ((j:Int) + 1) = ((j + 1:Nat):Int):=by rw [bm (by omega) (by omega)]; rfl
   refine dk s3 (j:=0) rfl (by omega) (by omega) fun q hq=>?_;refine dD (j:=0) (i:=j) (k:=0) k.m[f][j] (ck _) s3 rfl hq (by simp) (aF hjl) (by simp) ?_;refine cO (bq zo.pm s3 (i:=1) rfl rfl rfl ?_);refine bM (mK zo.pm _ f j k.m[f][j]) (i:=2) rfl s3 fun r h4 hr s4=>?_;have es:(Mem.store ((fO k.m (replicate 16 0) f).set f (fO k.m[f] 0 j)) f j k.m[f][j]).2 = (fO k.m (replicate 16 0) f).set f (fO k.m[f] 0 (j + 1)):=by
    have hh:Mem.has ((fO k.m (replicate 16 0) f).set f (fO k.m[f] 0 j)) f j:=⟨by omega,by simp only [length_set,hmx]; omega,by omega,by omega⟩
    unfold Mem.store;rw [if_pos hh];unfold Mem.put;simp only [toNat_natCast];have hg:((fO k.m (replicate 16 0) f).set f (fO k.m[f] 0 j)).getD f [] = fO k.m[f] 0 j:=by rw [List.getD_eq_getElem?_getD,List.getElem?_set,if_pos rfl,if_pos (by rw [hmx]; exact hlt)]; rfl
    rw [hg,set_set,rO _ _ hjl]
   rw [es] at s4;rw [hw2];exact ⟨⟨j + 1,rfl,hlt2,s4⟩,by simp; omega⟩
  ·have:j = 16:=by rw [hrl,hrow] at d2; have:=of_decide_eq_false d2; omega
   subst this;have er:fO k.m[f] 0 16 = k.m[f]:=by have:=xd k.m[f] (0:Int); rw [hrow] at this; exact this
   rw [er,rO _ _ hlt] at s3;refine cO (bq zo.pp s3 (i:=1) rfl rfl rfl ?_);refine bM (xC zo.pp _) (i:=5) rfl s3 fun r h4 hr s4=>?_;rw [take_mixd (by omega)] at s4;rw [hw];exact ⟨⟨f + 1,rfl,hlt,bY (l:=[vU r33 k.m[f]]) s4⟩,by simp; omega⟩
 ·have:f = k.m.length:=by have:=of_decide_eq_false d; omega
  subst this;have ea:fO (replicate k.pool.length (1:Int)) 0 k.m.length = replicate k.pool.length 1:=by
   have:=xd (replicate k.pool.length (1:Int)) 0;rw [length_replicate,hpm] at this;rw [hpm]; exact this
  rw [xd,ea] at s1;refine bq k.s.fCb s1 (i:=6) rfl rfl rfl ?_;exact copy3 (o:=⟨k.s,k.m,replicate k.tabs.length (replicate 8 dc),replicate k.pool.length 1,oc⟩) ok ho hz rfl rfl rfl rfl oko sb s1
theorem three {s:eR} {z:PZ}:∀ (i:Nat) (v:Value),(aE.C s)[i]? = some v->(ra s z)[0 + 0 + i]? = some v:=by
 intro j v hv;have:j < 3:=(List.getElem?_eq_some_iff.1 hv).1
 match j,this with
 | 0,_=>exact hv
 | 1,_=>exact hv
 | 2,_=>exact hv
theorem wa (x:Ptr) (k:PK):Sp prog ic [pv x] dY [bu x k] (fun r=>aB [bu r k,bu x k]):=by
 intro h s0;obtain ⟨z,rfl,h1,ok,hl,st⟩:=gi s0;have hs:=fV.1 ok.sz;refine sim_plain_Kernel_Copy _ ?_;unfold rI;refine dx rfl (cO ?_);refine ld_s (i:=0) k.s st rfl (fun i v hv=>by simpa using three i v hv) ?_;refine mD (tc k.s ok.sz) st fun r h2 s2=>?_;obtain ⟨zo,rfl,ho,okn,hlo,s3⟩:=gi s2;refine bq k.s.fCb s3 (i:=6) rfl rfl rfl ?_;have e1:k.s.fCb.toNat = k.m.length:=by have:=ok.ml; omega
 have e2:k.s.fJa.toNat = k.tabs.length:=by have:=ok.tl; omega
 have e3:k.s.fCb.toNat = k.pool.length:=by have:=ok.pl; omega
 have e4:k.s.fJa.toNat = k.caps.length:=by have:=ok.cl; omega
 refine copy1 (o:=PK.new k.s) ok ?_ h1 rfl (by simp only [PK.new,e1]) (by simp only [PK.new,e2]) (by simp only [PK.new,e3]) okn.tree ⟨by simp only [PK.new,length_replicate,e4],fun e s hh=>.inl ?_⟩ s3
 ·rw [ho]; simp only [PK.new,length_replicate,e2]
 ·obtain ⟨a,b,rfl,rfl,ha,hb⟩:=fAa.has_nat hh;simp only [fAa.get,PK.new,e4,toNat_natCast,List.getD_eq_getElem?_getD,List.getElem?_replicate,if_pos ha,Option.getD_some,if_pos hb]
end
section
open Go Mb
def CmpOk (v:Value) (A:List As) (key:Int->Int) (S:Int->Prop):Prop :=
 ∀ x y,S x->S y->SpV prog v [.int .i64 x,.int .i64 y] eH A (fun r=>pa_ (r < 0↔key x < key y) A)
abbrev Up (key:Int->Int) (l:List Int):Prop:=l.Pairwise fun x y=>key x <= key y
theorem pV {L R:List Int} {x:Int}:(L++x::R)[L.length]? = some x:=by simp
theorem ur {L R:List Int} {x y:Int}:(L++x::y::R)[L.length + 1]? = some y:=by
 rw [List.getElem?_append_right (by omega),show L.length + 1 - L.length = 1 from by omega]; rfl
theorem mid_set {L R:List Int} {x v:Int}:(L++x::R).set L.length v = L++v::R:=by simp
theorem mid_set1 {L R:List Int} {x y v:Int}:(L++x::y::R).set (L.length + 1) v = L++x::v::R:=by
 rw [List.set_append_right _ _ (by omega),show L.length + 1 - L.length = 1 from by omega]; rfl
theorem up_insert {key:Int->Int} {a1 a2:List Int} {y:Int} (h:Up key (a1++a2)) (h1:∀ x ∈ a1,key x <= key y) (h2:∀ x ∈ a2,key y < key x):Up key (a1++y::a2):=by
 obtain ⟨p1,p2,p3⟩:=pairwise_append.1 h;refine pairwise_append.2 ⟨p1,List.pairwise_cons.2 ⟨fun x hx=>Int.le_of_lt (h2 x hx),p2⟩,fun x hx z hz=>?_⟩;rcases List.mem_cons.1 hz with rfl | hz
 ·exact h1 x hx
 ·exact p3 x hx z hz
theorem sp_insertion (s:Sl) (v:Value) (A:List As) (key:Int->Int) (S:Int->Prop) (hv:CmpOk v A key S) (p m q:List Int) (hS:∀ x ∈ m,S x) (hb:p.length + m.length + q.length < 2 ^ 60) :
  Sp prog bS [sv s,.int .i64 p.length,.int .i64 (p.length + m.length:Nat),v] R_ (vI s (p++(m++q))::A) (fun _ h=>∃ m',(m'.Perm m/\Up key m')/\aB (vI s (p++(m'++q))::A) h):=by
 intro h s0;have hl:=(cj (j:=0) s0 rfl).1;refine nI _ _ _ _ ?_;unfold iN;have hw0:i64.wrap ((p.length:Int) + 1) = ((p.length + 1:Nat):Int):=by rw [bm (by omega) (by omega)]; rfl
 rw [hw0];cases m with
 | nil =>
  refine Lp.intro (fun (i:Int) h=>i = ((p.length + 1:Nat):Int)/\aB (vI s (p++([]++q))::A) h) (fun _ _=>0) ⟨rfl,s0⟩ ?_;rintro i h ⟨rfl,s1⟩;unfold dQ;refine dx (by simp; omega) ?_;exact ⟨[],⟨.refl _,.nil⟩,s1⟩
 | cons x0 t0 =>
  refine Lp.intro (fun (i:Int) h=>∃ a b:List Int,i = ((p.length + a.length:Nat):Int)/\Up key a/\(a++b).Perm (x0::t0)/\aB (vI s (p++((a++b)++q))::A) h) (fun (i:Int) _=>p.length + (x0::t0).length - i.toNat) ⟨[x0],t0,rfl,List.pairwise_singleton _ _,.refl _,s0⟩ ?_;rintro i h ⟨a,b,rfl,ha,hp,s1⟩;have hlen:=hp.length_eq;simp only [List.length_append] at hlen;have hsl:=(cj (j:=0) s1 rfl).1;unfold dQ;refine aY (fun k=>?_) (fun k=>?_)
  ·have hbp:0 < b.length:=by have:=of_decide_eq_true k; omega
   obtain ⟨y,b',rfl⟩:=List.exists_cons_of_length_pos hbp;have hS':∀ x ∈ a++y::b',S x:=fun x hx=>hS x (hp.subset hx);have hw1:i64.wrap (((p.length + a.length:Nat):Int) + 1) = ((p.length + a.length + 1:Nat):Int):=by rw [bm (by omega) (by omega)]; rfl
   have out:∀ (a1 a2:List Int) (h:Hp),a1++a2 = a->(∀ x ∈ a1,key x <= key y)->(∀ x ∈ a2,key y < key x)->aB (vI s (p++((a1++y::(a2++b'))++q))::A) h ->
     (fun (s':Int) h'=>(∃ a b:List Int,s' = ((p.length + a.length:Nat):Int)/\Up key a/\(a++b).Perm (x0::t0)/\aB (vI s (p++((a++b)++q))::A) h')/\p.length + (x0::t0).length - s'.toNat < p.length + (x0::t0).length - ((p.length + a.length:Nat):Int).toNat) (i64.wrap (((p.length + a.length:Nat):Int) + 1)) h:=by
    intro a1 a2 h he h1 h2 s2;subst he;rw [hw1];refine ⟨⟨a1++y::a2,b',by simp; omega,up_insert ha h1 h2,?_,?_⟩,by simp at hlen ⊢; omega⟩
    ·refine List.Perm.trans ?_ hp;have:(a1++y::a2++b').Perm (a1++a2++y::b'):=by
      rw [List.append_assoc,List.append_assoc];refine List.Perm.append_left a1 ?_;simpa using (List.perm_middle (a:=y) (l₁:=a2) (l₂:=b')).symm
     exact this
    ·have:a1++y::a2++b' = a1++y::(a2++b'):=by simp
     rw [this]; exact s2
   refine Lp.intro (fun (j:Int) h=>∃ a1 a2:List Int,a1++a2 = a/\j = ((p.length + a1.length:Nat):Int)/\(∀ x ∈ a2,key y < key x)/\aB (vI s (p++((a1++y::(a2++b'))++q))::A) h) (fun (j:Int) _=>j.toNat) ⟨a,[],by simp,rfl,fun x hx=>(by cases hx),by simpa using s1⟩ ?_;rintro j h ⟨a1,a2,he,rfl,h2,s2⟩;unfold fu;refine aY (fun k2=>?_) (fun k2=>?_)
   ·have hne:a1 ≠ []:=by
     intro e; subst e; simp at k2
    obtain ⟨L0,z,rfl⟩:∃ L z,a1 = L++[z]:=⟨a1.dropLast,a1.getLast hne,(List.dropLast_concat_getLast hne).symm⟩
    have hal:a.length = L0.length + 1 + a2.length:=by rw [← he]; simp; omega
    have hdec:p++((L0++[z]++y::(a2++b'))++q) = (p++L0)++z::y::(a2++b'++q):=by simp
    rw [hdec] at s2;have hlL:(p++L0).length = p.length + L0.length:=by simp
    have hj:((p.length + (L0++[z]).length:Nat):Int) = (((p++L0).length + 1:Nat):Int):=by simp; omega
    rw [hj];have hsl2:=(cj (j:=0) s2 rfl).1;have hw2:i64.wrap ((((p++L0).length + 1:Nat):Int) - 1) = (((p++L0).length:Nat):Int):=by rw [bm (by omega) (by omega)]; omega
    rw [hw2];refine dk s2 (j:=0) rfl (by omega) (by simp; omega) fun q1 hq1=>?_;refine dk s2 (j:=0) rfl (by omega) (by simp; omega) fun q2 hq2=>?_;refine dD (j:=0) (i:=(p++L0).length + 1) (k:=0) y (ck _) s2 rfl hq1 (by rw [toNat_natCast]; rfl) ur (by simp) ?_;refine dD (j:=0) (i:=(p++L0).length) (k:=0) z (ck _) s2 rfl hq2 (by rw [toNat_natCast]; rfl) pV (by simp) ?_;have hSy:S y:=hS' y (by simp);have hSz:S z:=hS' z (by rw [← he]; simp);refine clv_t (hv y z hSy hSz) s2 fun r h3 s3=>?_;obtain ⟨hr,s4⟩:=bt.1 s3;have s5:=wA s4;refine aY (fun k3=>?_) (fun k3=>?_)
    ·have k3':key y < key z:=hr.1 (of_decide_eq_true k3);refine dD (j:=0) (i:=(p++L0).length) (k:=0) z (ck _) s5 rfl hq2 (by rw [toNat_natCast]; rfl) pV (by simp) ?_;refine dD (j:=0) (i:=(p++L0).length + 1) (k:=0) y (ck _) s5 rfl hq1 (by rw [toNat_natCast]; rfl) ur (by simp) ?_;refine uJ (j:=0) (i:=(p++L0).length + 1) (k:=0) z (ck _) s5 rfl hq1 (by rw [toNat_natCast]; rfl) ur (by simp) rfl fun h6 s6=>?_;rw [mid_set1] at s6;refine uJ (j:=0) (i:=(p++L0).length) (k:=0) y (ck _) s6 rfl hq2 (by rw [toNat_natCast]; rfl) pV (by simp) rfl fun h7 s7=>?_;refine ⟨⟨L0,z::a2,by rw [← he]; simp,by rw [hlL],fun x hx=>?_,?_⟩,by simp only [toNat_natCast]; omega⟩
     ·rcases List.mem_cons.1 hx with rfl | hx
      ·exact k3'
      ·exact h2 x hx
     ·have e2:p++((L0++y::(z::a2++b'))++q) = (p++L0)++y::z::(a2++b'++q):=by simp
      rw [e2];have s8:aB (vI s (((p++L0)++z::z::(a2++b'++q)).set (p++L0).length y)::A) h7:=s7;rw [mid_set] at s8;exact s8
    ·have k3':key z <= key y:=by
      have:¬ key y < key z:=fun hh=>by have:=hr.2 hh; simp at k3; omega
      omega
     refine out (L0++[z]) a2 h3 he (fun x hx=>?_) h2 (by rw [hdec]; exact s5);have hup:Up key (L0++[z]):=by
      rw [← he] at ha;exact (pairwise_append.1 ha).1
     rcases List.mem_append.1 hx with hx | hx
     ·have:=(pairwise_append.1 hup).2.2 x hx z (by simp);omega
     ·rw [List.mem_singleton.1 hx]; exact k3'
   ·have e:a1 = []:=by
     have:=of_decide_eq_false k2;exact List.eq_nil_of_length_eq_zero (by omega)
    subst e;exact out [] a2 h he (fun x hx=>by cases hx) h2 s2
  ·have hb0:b = []:=by
    have:=of_decide_eq_false k;exact List.eq_nil_of_length_eq_zero (by omega)
   subst hb0;rw [List.append_nil] at hp s1;exact ⟨a,⟨hp,ha⟩,s1⟩
theorem sp_SortStable20 (s:Sl) (v:Value) (A:List As) (key:Int->Int) (S:Int->Prop) (hv:CmpOk v A key S) (m:List Int) (hS:∀ x ∈ m,S x) (hb:m.length <= 20) :
  Sp prog eJ [sv s,v] R_ (vI s m::A) (fun _ h=>∃ m',(m'.Perm m/\Up key m')/\aB (vI s m'::A) h):=by
 intro h s0;have hl:=(cj (j:=0) s0 rfl).1;refine jd _ _ ?_;unfold fR;unfold cl;refine kZ _ _ _ ?_;unfold io;rw [hl];have ins:∀ (p m q:List Int) (h:Hp) (K:Unit->Hp->Prop),(∀ x ∈ m,S x)->p.length + m.length + q.length < 2 ^ 60->aB (vI s (p++(m++q))::A) h->(∀ m' h',m'.Perm m->Up key m'->aB (vI s (p++(m'++q))::A) h'->K () h') ->
   cl prog bS [sv s,.int .i64 p.length,.int .i64 (p.length + m.length:Nat),v] R_ K h:=by
  intro p m q h K h1 h2 s1 k;refine (sp_insertion s v A key S hv p m q h1 h2 h s1).mono ?_;rintro u h' ⟨r,e,m',⟨p1,p2⟩,s2⟩;exact ⟨r,e,k m' h' p1 p2 s2⟩
 have tail:∀ (m':List Int) (h:Hp),m'.length = m.length->Up key m'->m'.Perm m->aB (vI s m'::A) h->Lp (cQ (s) (m.length:Int) v (fun _ h'=>∃ m',(m'.Perm m/\Up key m')/\aB (vI s m'::A) h')) 20 h:=by
  intro m' h hlm hu hp s1;refine Lp.intro (fun (i:Int) h=>i = 20/\aB (vI s m'::A) h) (fun _ _=>0) ⟨rfl,s1⟩ ?_;rintro i h ⟨rfl,s2⟩;unfold cQ;refine dx (by simp; omega) ?_;exact ⟨m',⟨hp,hu⟩,s2⟩
 refine Lp.intro (fun (z:Int × Int) h=>(z = (0,20)/\aB (vI s m::A) h)\/(z = (20,40)/\m.length = 20/\∃ m',(m'.Perm m/\Up key m')/\aB (vI s m'::A) h)) (fun (z:Int × Int) _=>(40 - z.2).toNat) (.inl ⟨rfl,s0⟩) ?_;rintro z h (⟨rfl,s1⟩ | ⟨rfl,h20,m',⟨hp,hu⟩,s1⟩)
 ·unfold eC;refine aY (fun k=>?_) (fun k=>?_)
  ·have h20:m.length = 20:=by have:=of_decide_eq_true k; omega
   have e:(20:Int) = ((([]:List Int).length + m.length:Nat):Int):=by simp [h20]
   show cl prog bS [sv s,.int .i64 0,.int .i64 20,v] R_ _ h;rw [e];refine ins [] m [] h _ hS (by simp; omega) (by simpa using s1) fun m' h' hp hu s2=>?_;refine ⟨.inr ⟨?_,h20,m',⟨hp,hu⟩,by simpa using s2⟩,?_⟩
   ·rw [← e]; rw [bm (by omega) (by omega)]; rfl
   ·rw [← e]; rw [bm (by omega) (by omega)]; decide
  ·have e:(m.length:Int) = ((([]:List Int).length + m.length:Nat):Int):=by simp
   show cl prog bS [sv s,.int .i64 0,.int .i64 (m.length:Int),v] R_ _ h;have:=ins [] m [] h (fun _=>Lp (cQ s (m.length:Int) v (fun _ h'=>∃ m',(m'.Perm m/\Up key m')/\aB (vI s m'::A) h')) 20) hS (by simp; omega) (by simpa using s1) fun m' h' hp hu s2=>tail m' h' hp.length_eq hu hp (by simpa using s2);rw [← e] at this;exact this
 ·unfold eC;refine dx (by rw [h20]; rfl) ?_;have hml:m'.length = 20:=hp.length_eq.trans h20;have e:(m.length:Int) = ((m'.length + ([]:List Int).length:Nat):Int):=by simp [h20,hml]
  have e2:(20:Int) = (m'.length:Int):=by omega
  show cl prog bS [sv s,.int .i64 20,.int .i64 (m.length:Int),v] R_ _ h;have:=ins m' [] [] h (fun _=>Lp (cQ s (m.length:Int) v (fun _ h'=>∃ m',(m'.Perm m/\Up key m')/\aB (vI s m'::A) h')) 20) (fun x hx=>by cases hx) (by simp; omega) (by simpa using s1) fun m2 h' hp2 hu2 s2=>by
   have:m2 = []:=hp2.eq_nil;subst this;exact tail m' h' hp.length_eq hu hp (by simpa using s2)
  rw [← e,← e2] at this;exact this
end
end Go.Proofs.YtochchocdckegaaGreatDoor
