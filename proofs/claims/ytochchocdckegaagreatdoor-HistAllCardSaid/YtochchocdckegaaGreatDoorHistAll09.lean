/- Part of the proof of: The law HistAll returns true for every input, and leaves its arguments as they were. -/
import Derived.Test.YtochchocdckegaaGreatDoorHistAll08
set_option linter.all false
set_option maxRecDepth 20000
namespace Go.Proofs.YtochchocdckegaaGreatDoor
open Go.Proofs.Tryz
open Go.IntKind (i64 u64)
open _root_.List (replicate)
open _root_.Nat (zero_le)
section
open Go Mb
theorem gone_app (f:Int):∀ (l:List dA) (k:PK) (p:dA),PK.gone k f (l++[p]) = PK.gone (PK.gone k f l) f [p]
 | [],_,_=>rfl
 | _::l,_,p=>gone_app f l _ p
theorem gone_s (f:Int):∀ (l:List dA) (k:PK),(PK.gone k f l).s = k.s/\(PK.gone k f l).m = k.m/\(PK.gone k f l).caps = k.caps/\(PK.gone k f l).tabs.length = k.tabs.length
 | [],_=>⟨rfl,rfl,rfl,rfl⟩
 | p::l,k=>by
  obtain ⟨h1,h2,h3,h4⟩:=gone_s f l { k with tabs:=k.tabs.set p.fCa.toNat (PK.unmap (PK.tab k p.fCa) p.fEa),pool:=(Pool.lets k.pool f).2.2 };rw [PK.gone];exact ⟨h1,h2,h3,by rw [h4]; simp⟩
theorem unmaps_app:∀ (l:List Int) (ps:List Pte) (i:Int),PK.unmaps ps (l++[i]) = (Table.remove (PK.unmaps ps l) i).2
 | [],_,_=>rfl
 | j::l,ps,i=>by rw [List.cons_append,PK.unmaps,PK.unmaps,unmaps_app l]
theorem revoke_loop {z:PZ} {k:PK} {l:List dA} {s7:Sl} {h:Hp} {K:gZ->Hp->Prop} (c:Cap × Bool) (ok:PK.Ok k) (h1:z.tp.length = k.tabs.length) (hl:∀ p ∈ l,fAa.has k.caps p.fCa p.fEa = true) (hb:l.length <= 1000)
  (s0:ay (vP s7 l::plainL z k) h) (kk:∀ h',ay [bB (some (z.b,0)) (PK.gone k c.1.fFa l)] h'->K ⟨0,u64.wrap l.length⟩ h'):Lp (ij K (z.b,0) c s7) 0 h:=by
 have hsl:=(bY (j:=0) s0 rfl).1;have hts:=(bY (j:=3) s0 rfl).1;refine Lp.intro (fun (i:Int) h=>∃ n:Nat,i = n/\n <= l.length/\ay (vP s7 l::plainL z (PK.gone k c.1.fFa (l.take n))) h) (fun (i:Int) _=>l.length - i.toNat) ⟨0,rfl,zero_le _,s0⟩ ?_;rintro i h ⟨n,rfl,hn,s1⟩;unfold ij;refine aX (fun d=>?_) (fun d=>?_)
 ·have hlt:n < l.length:=by rw [hsl] at d; simpa using d
  have hw:i64.wrap ((n:Int) + 1) = ((n + 1:Nat):Int):=by rw [bp (by omega) (by omega)]; rfl
  have okn:=ok_gone (l.take n) ok c.1.fFa;obtain ⟨g1,g2,g3,g4⟩:=gone_s c.1.fFa (l.take n) k;have ht:l.take (n + 1) = l.take n++[l[n]]:=by simp
  have step:PK.gone k c.1.fFa (l.take (n + 1)) = { PK.gone k c.1.fFa (l.take n) with tabs:=(PK.gone k c.1.fFa (l.take n)).tabs.set l[n].fCa.toNat (PK.unmap (PK.tab (PK.gone k c.1.fFa (l.take n)) l[n].fCa) l[n].fEa),pool:=(Pool.lets (PK.gone k c.1.fFa (l.take n)).pool c.1.fFa).2.2 }:=by
   rw [ht,gone_app]; rfl
  generalize hk:PK.gone k c.1.fFa (l.take n) = kn at *
  obtain ⟨a,b,ea,eb,ha,hb'⟩:=fAa.has_nat (hl _ (List.getElem_mem hlt));have ha':a < kn.tabs.length:=by have:=ok.tl; have:=ok.cl; omega
  have hap:a < z.tp.length:=by omega
  refine cU s1 (j:=0) rfl (by omega) (by omega) fun q hq=>?_;refine cX (j:=0) (i:=n) (k:=0) l[n] wD s1 rfl hq (by simp) (aB hlt) (by simp) ?_;refine bt z.ts s1 (i:=1) rfl rfl rfl ?_;refine cU s1 (j:=3) rfl (by omega) (by omega) fun q2 hq2=>?_;refine cX (j:=3) (i:=a) (k:=0) z.tp[a] iq s1 rfl hq2 (by rw [ea]; simp) (aB hap) (by simp) ?_;have s2:=jM (aB hap) (aB ha') (bd [4] s1 rfl);refine ui (sp_table_By z.tp[a] kn.tabs[a] l[n].fEa) (i:=0) rfl s2 fun r77 h3 s3=>?_;have hpl:=(bY (j:=0) s3 rfl).1;have hp8:(Table.by_ kn.tabs[a] l[n].fEa).length <= 8:=by have:=by_len l[n].fEa kn.tabs[a] 0; have:=(okn.tr _ (List.getElem_mem ha')).1; unfold Table.by_; omega
  refine Lp.intro (fun (i:Int) h=>∃ m:Nat,i = m/\m <= (Table.by_ kn.tabs[a] l[n].fEa).length/\ay [vI r77 (Table.by_ kn.tabs[a] l[n].fEa),df z.tp[a] (PK.unmaps kn.tabs[a] ((Table.by_ kn.tabs[a] l[n].fEa).take m)),but df z.tp kn.tabs a,vP s7 l,blk z.b cE (qR kn.s z),iQ z.pm kn.m,vQ eQ z.ts z.tp,gq z.pp kn.pool,cO z.pc kn.caps] h) (fun (i:Int) _=>(Table.by_ kn.tabs[a] l[n].fEa).length - i.toNat) ⟨0,rfl,zero_le _,s3⟩ ?_;rintro i h ⟨m,rfl,hm,s4⟩;unfold ky;refine aX (fun d2=>?_) (fun d2=>?_)
  ·have hlt2:m < (Table.by_ kn.tabs[a] l[n].fEa).length:=by rw [hpl] at d2; simpa using d2
   have hw2:i64.wrap ((m:Int) + 1) = ((m + 1:Nat):Int):=by rw [bp (by omega) (by omega)]; rfl
   refine cU s4 (j:=0) rfl (by omega) (by omega) fun q3 hq3=>?_;refine cX (j:=0) (i:=m) (k:=0) (Table.by_ kn.tabs[a] l[n].fEa)[m] (cf _) s4 rfl hq3 (by simp) (aB hlt2) (by simp) ?_;refine bt z.ts s4 (i:=4) rfl rfl rfl ?_;refine cU s4 (j:=6) rfl (by omega) (by omega) fun q4 hq4=>?_;refine cX (j:=6) (i:=a) (k:=0) z.tp[a] iq s4 rfl hq4 (by rw [ea]; simp) (aB hap) (by simp) ?_;refine cc (sp_table_Remove z.tp[a] _ _) (i:=1) rfl s4 fun r h5 hr s5=>?_;rw [hw2];refine ⟨⟨m + 1,rfl,hlt2,?_⟩,by simp; omega⟩;have ht2:(Table.by_ kn.tabs[a] l[n].fEa).take (m + 1) = (Table.by_ kn.tabs[a] l[n].fEa).take m++[(Table.by_ kn.tabs[a] l[n].fEa)[m]]:=by simp
   rw [ht2,unmaps_app];exact s5
  ·have:m = (Table.by_ kn.tabs[a] l[n].fEa).length:=by rw [hpl] at d2; simp at d2; omega
   subst this;rw [List.take_length] at s4;have s5:=yf (aB hap) ha' (by omega) (ce (l:=[vI r77 (Table.by_ kn.tabs[a] l[n].fEa)]) s4);refine bt z.pp s5 (i:=2) rfl rfl rfl ?_;refine cc (sp_pool_Let z.pp kn.pool c.1.fFa) (i:=5) rfl s5 fun r h6 hr s6=>?_;rw [hw];refine ⟨⟨n + 1,rfl,hlt,?_⟩,by simp; omega⟩;rw [step,ea];have e1:PK.tab kn (a:Int) = kn.tabs[a]:=(tab_of okn ha').1;rw [e1];exact bd [1,1,1,1] s6 rfl
 ·have:n = l.length:=by rw [hsl] at d; simp at d; omega
  subst this;rw [List.take_length] at s1;rw [hsl];obtain ⟨g1,g2,g3,g4⟩:=gone_s c.1.fFa l k;exact kk h (di (by omega) (ok_gone l ok _) (ce (l:=[vP s7 l]) s1))
theorem sp_plain_revoke (x:Ptr) (k:PK) (e s:Int) (w:Bool):Sp prog lg [pv x,.int .i64 e,.int .i64 s,.bool w] ir [bB x k] (fun r=>pa_ (r = (PK.revoke k e s w).1) [bB x (PK.revoke k e s w).2]):=by
 intro h s0;obtain ⟨z,rfl,h1,ok,hl,st⟩:=ge s0;have o1:=fAa.ok_revoke ok.tree e s;have f1:=fAa.fine_revoke ok.tree ok.fine e s;have len1:(fAa.revoke k.caps e s).1.1.length <= 32/\∀ p ∈ (fAa.revoke k.caps e s).1.1,fAa.has k.caps p.fCa p.fEa = true:=by
  unfold fAa.revoke; split
  ·exact ⟨by simp,fun p hp=>by cases hp⟩
  ·have:=all_len (fun _ _ c=>fAa.under k.caps c ⟨e,s⟩) k.caps 0 ok.tree.row;have:=ok.tree.len;exact ⟨by show (fAa.below k.caps e s).length <= 32; unfold fAa.below; omega,fun p hp=>((fAa.mem_below ok.tree).1 hp).1⟩
 have len2:(fAa.drop (fAa.revoke k.caps e s).2 e s).1.1.length <= 32/\∀ p ∈ (fAa.drop (fAa.revoke k.caps e s).2 e s).1.1,fAa.has k.caps p.fCa p.fEa = true:=by
  unfold fAa.drop; split
  ·exact ⟨by simp,fun p hp=>by cases hp⟩
  ·have:=all_len (fun a b c=>aO.eqb ⟨a,b⟩ ⟨e,s⟩ || fAa.under (fAa.revoke k.caps e s).2 c ⟨e,s⟩) (fAa.revoke k.caps e s).2 0 o1.row;have:=o1.len;refine ⟨by show (fAa.own (fAa.revoke k.caps e s).2 e s).length <= 32; unfold fAa.own; omega,fun p hp=>?_⟩;have:=((fAa.mem_own o1).1 hp).1;unfold fAa.has at this ⊢;rw [fAa.revoke_len] at this;exact this
 refine wc _ _ _ _ ?_;unfold pn;refine cL (bt z.pc st (i:=0) rfl rfl rfl ?_);refine cc (kx z.pc k.caps e s) (i:=5) rfl st fun c h2 hc s2=>?_;subst hc;refine bt z.pc s2 (i:=0) rfl rfl rfl ?_;refine cl_p (sp_caps_Revoke z.pc k.caps e s) (i:=5) rfl s2 fun r h3 hr s3=>?_;unfold ik;refine aX (fun d=>?_) (fun d=>?_)
 ·have d':w = true/\r.2 = 0:=by simpa using d
  have hno:¬ (fAa.revoke k.caps e s).1.2 ≠ 0:=by rw [← hr]; simp [d'.2]
  obtain ⟨rfl,d2⟩:=d';have e1:PK.revoke k e s true = (⟨0,u64.wrap ((fAa.revoke k.caps e s).1.1++(fAa.drop (fAa.revoke k.caps e s).2 e s).1.1).length⟩,
   PK.gone { k with caps:=(fAa.drop (fAa.revoke k.caps e s).2 e s).2 } (fAa.at_ k.caps e s).1.fFa ((fAa.revoke k.caps e s).1.1++(fAa.drop (fAa.revoke k.caps e s).2 e s).1.1)):=by unfold PK.revoke; rw [if_neg hno,if_pos rfl]
  rw [e1];refine bt z.pc s3 (i:=1) rfl rfl rfl ?_;refine cl_p (sp_caps_Drop z.pc _ e s) (i:=6) rfl s3 fun r4 h4 hr4 s4=>?_;refine rK (τ:=dA) (i:=1) (j:=0) (enc:=aO.C) (ys:=(fAa.drop (fAa.revoke k.caps e s).2 e s).1.1) ug ug.sl wD place_one s4 rfl rfl (by omega) (by omega) (by omega) fun v h5 s5=>?_;refine dN (by simp [d2]) ?_;refine revoke_loop _ (ok_caps ok (by rw [fAa.drop_len,fAa.revoke_len]) (fAa.ok_drop o1 _ _) (fAa.fine_drop o1 f1 _ _)) h1 ?_ (by simp; omega) (ce (l:=[vP r4.1 (fAa.drop (fAa.revoke k.caps e s).2 e s).1.1]) s5) fun h' s'=>ba rfl s';intro p hp;unfold fAa.has;simp only [fAa.drop_len,fAa.revoke_len];rcases List.mem_append.1 hp with hp | hp
  ·exact len1.2 p hp
  ·exact len2.2 p hp
 ·refine aX (fun d2=>?_) (fun d2=>?_)
  ·have d2':(fAa.revoke k.caps e s).1.2 ≠ 0:=by rw [← hr]; simpa using d2
   have e1:PK.revoke k e s w = (⟨(fAa.revoke k.caps e s).1.2,0⟩,k):=if_pos d2';rw [e1];rw [(revoke_no d2').1] at s3;exact ba (by rw [hr]) (di h1 ok (ce (l:=[vP r.1 _]) s3))
  ·have d2':¬ (fAa.revoke k.caps e s).1.2 ≠ 0:=by rw [← hr]; simpa using d2
   have hw:w = false:=by
    cases w with
    | false=>rfl
    | true=>simp at d d2; exact absurd d2 d
   subst hw;have e1:PK.revoke k e s false = (⟨0,u64.wrap (fAa.revoke k.caps e s).1.1.length⟩,PK.gone { k with caps:=(fAa.revoke k.caps e s).2 } (fAa.at_ k.caps e s).1.fFa (fAa.revoke k.caps e s).1.1):=by unfold PK.revoke; rw [if_neg d2',if_neg Bool.false_ne_true]
   rw [e1];refine revoke_loop _ (ok_caps ok (by rw [fAa.revoke_len]) o1 f1) h1 ?_ (by omega) s3 fun h' s'=>ba rfl s';intro p hp;unfold fAa.has;simp only [fAa.revoke_len];exact len1.2 p hp
theorem sp_plain_maps (x:Ptr) (k:PK) (e pg s r:Int) (he:PK.off k e = false):Sp prog nh [pv x,.int .i64 e,.int .i64 pg,.int .i64 s,.int .i64 r] bn [bB x k] (fun v=>pa_ (v = (PK.maps k e pg s r).1) [bB x (PK.maps k e pg s r).2]):=by
 intro h s0;obtain ⟨z,rfl,h1,ok,hl,st⟩:=ge s0;have ok2:=ok_maps ok e pg s r;obtain ⟨n,rfl,hn⟩:=off_nat ok he;have hn':n < z.tp.length:=by omega
 have ht:PK.tab k (n:Int) = k.tabs[n]:=(tab_of ok hn).1;refine sim_plain_Kernel_maps _ _ _ _ _ ?_;unfold rr;refine cL (bt z.pc st (i:=0) rfl rfl rfl ?_);refine cc (kx z.pc k.caps n s) (i:=5) rfl st fun c h2 hc s2=>?_;subst hc;refine aX (fun d=>?_) (fun d=>?_)
 ·have d':(fAa.at_ k.caps n s).2 = false:=by simpa using d
  have e1:PK.maps k n pg s r = (3,k):=if_pos d';rw [e1]; exact ba rfl (di h1 ok s2)
 ·have d':¬ (fAa.at_ k.caps n s).2 = false:=by simpa using d
  refine bt z.ts s2 (i:=0) rfl rfl rfl ?_;refine cU s2 (j:=2) rfl (by omega) (by omega) fun q hq=>?_;refine cX (j:=2) (i:=n) (k:=0) z.tp[n] iq s2 rfl hq (by simp) (aB hn') (by simp) ?_;have s3:=jM (aB hn') (aB hn) (bd [3] s2 rfl);refine cc (oz z.tp[n] k.tabs[n] pg) (i:=0) rfl s3 fun v h4 hv s4=>?_;subst hv;have back:∀ h,ay (df z.tp[n] k.tabs[n]::but df z.tp k.tabs n::blk z.b cE (qR k.s z)::iQ z.pm k.m::vQ eQ z.ts z.tp::gq z.pp k.pool::cO z.pc k.caps::[]) h->ay [bB (some (z.b,0)) k] h :=
   fun h s=>di h1 ok (bd [1,1,1] (wW (aB hn') (aB hn) h1 s) rfl)
  refine aX (fun d2=>?_) (fun d2=>?_)
  ·have e1:PK.maps k n pg s r = (4,k):=by unfold PK.maps; rw [if_neg d',ht,if_pos d2]
   rw [e1]; exact ba rfl (back _ s4)
  ·have d2':¬ (Table.get k.tabs[n] pg).2 = true:=by rw [d2]; exact Bool.false_ne_true
   refine aX (fun d3=>?_) (fun d3=>?_)
   ·have e1:PK.maps k n pg s r = (5,k):=by unfold PK.maps; rw [if_neg d',ht,if_neg d2',if_pos (by simpa using d3)]
    rw [e1]; exact ba rfl (back _ s4)
   ·have e1:PK.maps k n pg s r = ((Table.insert k.tabs[n] pg ⟨(fAa.at_ k.caps n s).1.fFa,s,r⟩).1,{ k with tabs:=k.tabs.set n (Table.insert k.tabs[n] pg ⟨(fAa.at_ k.caps n s).1.fFa,s,r⟩).2 }):=by
     unfold PK.maps; rw [if_neg d',ht,if_neg d2',if_neg (by simpa using d3)]; rfl
    rw [e1] at ok2 ⊢;refine bt z.ts s4 (i:=2) rfl rfl rfl ?_;refine cU s4 (j:=4) rfl (by omega) (by omega) fun q2 hq2=>?_;refine cX (j:=4) (i:=n) (k:=0) z.tp[n] iq s4 rfl hq2 (by simp) (aB hn') (by simp) ?_;refine cc (kM z.tp[n] k.tabs[n] pg ⟨(fAa.at_ k.caps n s).1.fFa,s,r⟩) (i:=0) rfl s4 fun v h5 hv s5=>?_;subst hv;exact ba rfl (di (k:={ k with tabs:=_ }) (by simpa using h1) ok2 (bd [1,1,1] (yf (aB hn') hn h1 s5) rfl))
theorem sp_plain_protect (x:Ptr) (k:PK) (e pg r:Int) (he:PK.off k e = false):Sp prog kD [pv x,.int .i64 e,.int .i64 pg,.int .i64 r] bn [bB x k] (fun v=>pa_ (v = (PK.protect k e pg r).1) [bB x (PK.protect k e pg r).2]):=by
 intro h s0;obtain ⟨z,rfl,h1,ok,hl,st⟩:=ge s0;have ok2:=ok_protect ok e pg r;obtain ⟨n,rfl,hn⟩:=off_nat ok he;have hn':n < z.tp.length:=by omega
 have ht:PK.tab k (n:Int) = k.tabs[n]:=(tab_of ok hn).1;refine vB _ _ _ _ ?_;unfold oB;refine cL (bt z.ts st (i:=0) rfl rfl rfl ?_);refine cU st (j:=2) rfl (by omega) (by omega) fun q hq=>?_;refine cX (j:=2) (i:=n) (k:=0) z.tp[n] iq st rfl hq (by simp) (aB hn') (by simp) ?_;have s3:=jM (aB hn') (aB hn) (bd [3] st rfl);refine cc (oz z.tp[n] k.tabs[n] pg) (i:=0) rfl s3 fun v h4 hv s4=>?_;subst hv;have back:∀ h,ay (df z.tp[n] k.tabs[n]::but df z.tp k.tabs n::blk z.b cE (qR k.s z)::iQ z.pm k.m::vQ eQ z.ts z.tp::gq z.pp k.pool::cO z.pc k.caps::[]) h->ay [bB (some (z.b,0)) k] h :=
  fun h s=>di h1 ok (bd [1,1,1] (wW (aB hn') (aB hn) h1 s) rfl)
 refine aX (fun d=>?_) (fun d=>?_)
 ·have e1:PK.protect k n pg r = (3,k):=by unfold PK.protect; rw [ht,if_pos (by simpa using d)]
  rw [e1]; exact ba rfl (back _ s4)
 ·have d':¬ (Table.get k.tabs[n] pg).2 = false:=by simpa using d
  refine bt z.pc s4 (i:=2) rfl rfl rfl ?_;refine cc (kx z.pc k.caps n _) (i:=6) rfl s4 fun c h5 hc s5=>?_;subst hc;refine aX (fun d2=>?_) (fun d2=>?_)
  ·have e1:PK.protect k n pg r = (5,k):=by unfold PK.protect; rw [ht,if_neg d',if_pos (by simpa using d2)]
   rw [e1]; exact ba rfl (back _ s5)
  ·have e1:PK.protect k n pg r = ((Table.protect k.tabs[n] pg r).1,{ k with tabs:=k.tabs.set n (Table.protect k.tabs[n] pg r).2 }):=by
    unfold PK.protect; rw [ht,if_neg d',if_neg (by simpa using d2)]; rfl
   rw [e1] at ok2 ⊢;refine bt z.ts s5 (i:=2) rfl rfl rfl ?_;refine cU s5 (j:=4) rfl (by omega) (by omega) fun q2 hq2=>?_;refine cX (j:=4) (i:=n) (k:=0) z.tp[n] iq s5 rfl hq2 (by simp) (aB hn') (by simp) ?_;refine cc (sp_table_Protect z.tp[n] k.tabs[n] pg r) (i:=0) rfl s5 fun v h6 hv s6=>?_;subst hv;exact ba rfl (di (k:={ k with tabs:=_ }) (by simpa using h1) ok2 (bd [1,1,1] (yf (aB hn') hn h1 s6) rfl))
theorem sp_plain_sleep (x:Ptr) (k:PK) (e:Int) (c:kl):Sp prog lX [pv x,.int .i64 e,.agg c.C.toArray] bq [bB x k] (fun v=>pa_ (v = PK.sleep k e c) [bB x k]):=by
 intro h s0;obtain ⟨z,rfl,h1,ok,hl,st⟩:=ge s0;refine xo _ _ _ ?_;unfold qf;refine cL (bt z.pc st (i:=0) rfl rfl rfl ?_);refine cc (kx z.pc k.caps e _) (i:=5) rfl st fun v h2 hv s2=>?_;subst hv;refine aX (fun d=>?_) (fun d=>?_)
 ·exact ba (by unfold PK.sleep; rw [if_pos (by simpa using d)]; rfl) (di h1 ok s2)
 ·refine aX (fun d2=>?_) (fun d2=>?_)
  ·exact ba (by unfold PK.sleep; rw [if_neg (by simpa using d),if_pos (by simpa using d2)]; rfl) (di h1 ok s2)
  ·refine bt z.pm s2 (i:=0) rfl rfl rfl ?_;refine cc (ro z.pm k.m _ _) (i:=1) rfl s2 fun v h3 hv s3=>?_;subst hv;refine aX (fun d3=>?_) (fun d3=>?_)
   ·exact ba (by unfold PK.sleep; rw [if_neg (by simpa using d),if_neg (by simpa using d2),if_pos (by simpa using d3)]) (di h1 ok s3)
   ·exact ba (by unfold PK.sleep; rw [if_neg (by simpa using d),if_neg (by simpa using d2),if_neg (by simpa using d3)]) (di h1 ok s3)
theorem sp_plain_user (x:Ptr) (k:PK) (e:Int) (c:kl) (he:PK.off k e = false):Sp prog ne [pv x,.int .i64 e,.agg c.C.toArray] ir [bB x k] (fun v=>pa_ (v = (PK.user k e c).1) [bB x (PK.user k e c).2]):=by
 intro h s0;obtain ⟨z,rfl,h1,ok,hl,st⟩:=ge s0;obtain ⟨n,rfl,hn⟩:=off_nat ok he;have hn':n < z.tp.length:=by omega
 have ht:PK.tab k (n:Int) = k.tabs[n]:=(tab_of ok hn).1;refine sim_plain_Kernel_user _ _ _ ?_;unfold rp;refine cL (bt z.ts st (i:=0) rfl rfl rfl ?_);refine cU st (j:=2) rfl (by omega) (by omega) fun q hq=>?_;refine cX (j:=2) (i:=n) (k:=0) z.tp[n] iq st rfl hq (by simp) (aB hn') (by simp) ?_;have s3:=jM (aB hn') (aB hn) (bd [3] st rfl);refine cc (oz z.tp[n] k.tabs[n] _) (i:=0) rfl s3 fun v h4 hv s4=>?_;subst hv;have s5:ay [bB (some (z.b,0)) k] h4:=di h1 ok (bd [1,1,1] (wW (aB hn') (aB hn) h1 s4) rfl);refine aX (fun d=>?_) (fun d=>?_)
 ·have e1:PK.user k n c = (⟨7,0⟩,k):=by unfold PK.user; rw [ht,if_pos (by simpa using d)]
  rw [e1]; exact ba rfl s5
 ·have e1:PK.user k n c = ((PK.touch k (Table.get k.tabs[n] (i64.wrap c.e1)).1.fFa c).1.1,(PK.touch k (Table.get k.tabs[n] (i64.wrap c.e1)).1.fFa c).2):=by unfold PK.user; rw [ht,if_neg (by simpa using d)]
  rw [e1];refine cc (oZ (some (z.b,0)) k _ c) (i:=0) rfl s5 fun v h6 hv s6=>?_;subst hv;exact ba rfl s6
theorem ko (x:Ptr) (k:PK) (e:Int) (c:kl):Sp prog dP [pv x,.int .i64 e,.agg c.C.toArray] bq [bB x k] (fun v=>pa_ (v = (PK.do_ k e c).1) [bB x (PK.do_ k e c).2]):=by
 intro h s0;refine sim_plain_Kernel_Do _ _ _ ?_;unfold tz;refine cc (sp_plain_off x k e) (i:=0) rfl s0 fun v h1 hv s1=>?_;subst hv;refine aX (fun d=>?_) (fun d=>?_)
 ·have e1:PK.do_ k e c = ((⟨10,0⟩,true),k):=if_pos d;rw [e1]; exact ba rfl s1
 ·have d':¬ PK.off k e = true:=by rw [d]; exact Bool.false_ne_true
  obtain ⟨z,rfl,hz,ok,hl,st⟩:=ge s1;refine cL (bt k.s.fIa st (i:=0) rfl rfl rfl ?_);refine ut (jB c _) st fun v h2 hv st2=>?_;subst hv;have s2:=di hz ok st2;refine aX (fun d2=>?_) (fun d2=>?_)
  ·have e1:PK.do_ k e c = ((⟨Word.check c k.s.fIa,0⟩,true),k):=by unfold PK.do_; rw [if_neg d',if_pos (by simpa using d2)]
   rw [e1]; exact ba rfl s2
  ·have e1:PK.do_ k e c = PK.does k e c:=by unfold PK.do_; rw [if_neg d',if_neg (by simpa using d2)]
   rw [e1];unfold kz;refine aX (fun c1=>?_) (fun c1=>?_)
   ·have ed:PK.does k e c = PK.errs (PK.alloc k e (i64.wrap c.e1)):=by unfold PK.does; rw [if_pos (by simpa using c1)]
    rw [ed];exact cc (sp_plain_alloc (some (z.b,0)) k e _) (i:=0) rfl s2 fun v h3 hv s3=>ba (by rw [hv]; rfl) s3
   refine aX (fun c2=>?_) (fun c2=>?_)
   ·have ed:PK.does k e c = PK.errs (PK.derive k e (i64.wrap c.e1) e (i64.wrap c.e2) (i64.wrap c.e3)):=by unfold PK.does; rw [if_neg (by simpa using c1),if_pos (by simpa using c2)]
    rw [ed];exact cc (sp_plain_derive (some (z.b,0)) k e _ _ _ _) (i:=0) rfl s2 fun v h3 hv s3=>ba (by rw [hv]; rfl) s3
   refine aX (fun c3=>?_) (fun c3=>?_)
   ·have ed:PK.does k e c = PK.errs (PK.derive k e (i64.wrap c.e1) (i64.wrap c.e2) (i64.wrap c.e3) (i64.wrap c.e4)):=by unfold PK.does; rw [if_neg (by simpa using c1),if_neg (by simpa using c2),if_pos (by simpa using c3)]
    rw [ed];exact cc (sp_plain_derive (some (z.b,0)) k e _ _ _ _) (i:=0) rfl s2 fun v h3 hv s3=>ba (by rw [hv]; rfl) s3
   refine aX (fun c4=>?_) (fun c4=>?_)
   ·have ed:PK.does k e c = (((PK.revoke k e (i64.wrap c.e1) true).1,true),(PK.revoke k e (i64.wrap c.e1) true).2):=by unfold PK.does; rw [if_neg (by simpa using c1),if_neg (by simpa using c2),if_neg (by simpa using c3),if_pos (by simpa using c4)]
    rw [ed];exact cc (sp_plain_revoke (some (z.b,0)) k e _ _) (i:=0) rfl s2 fun v h3 hv s3=>ba (by rw [hv]) s3
   refine aX (fun c5=>?_) (fun c5=>?_)
   ·have ed:PK.does k e c = (((PK.revoke k e (i64.wrap c.e1) false).1,true),(PK.revoke k e (i64.wrap c.e1) false).2):=by unfold PK.does; rw [if_neg (by simpa using c1),if_neg (by simpa using c2),if_neg (by simpa using c3),if_neg (by simpa using c4),if_pos (by simpa using c5)]
    rw [ed];exact cc (sp_plain_revoke (some (z.b,0)) k e _ _) (i:=0) rfl s2 fun v h3 hv s3=>ba (by rw [hv]) s3
   refine aX (fun c6=>?_) (fun c6=>?_)
   ·have ed:PK.does k e c = PK.errs (PK.maps k e (i64.wrap c.e1) (i64.wrap c.e2) (i64.wrap c.e3)):=by unfold PK.does; rw [if_neg (by simpa using c1),if_neg (by simpa using c2),if_neg (by simpa using c3),if_neg (by simpa using c4),if_neg (by simpa using c5),if_pos (by simpa using c6)]
    rw [ed];exact cc (sp_plain_maps (some (z.b,0)) k e _ _ _ d) (i:=0) rfl s2 fun v h3 hv s3=>ba (by rw [hv]; rfl) s3
   refine aX (fun c7=>?_) (fun c7=>?_)
   ·have ed:PK.does k e c = PK.errs (PK.remove k e (i64.wrap c.e1)):=by unfold PK.does; rw [if_neg (by simpa using c1),if_neg (by simpa using c2),if_neg (by simpa using c3),if_neg (by simpa using c4),if_neg (by simpa using c5),if_neg (by simpa using c6),if_pos (by simpa using c7)]
    rw [ed];obtain ⟨n,rfl,hn⟩:=off_nat ok d;have hn':n < z.tp.length:=by omega
    have ht:PK.tab k (n:Int) = k.tabs[n]:=(tab_of ok hn).1;have ok2:=ok_remove ok n (i64.wrap c.e1);refine bt z.ts st2 (i:=0) rfl rfl rfl ?_;refine cU st2 (j:=2) rfl (by omega) (by omega) fun q hq=>?_;refine cX (j:=2) (i:=n) (k:=0) z.tp[n] iq st2 rfl hq (by simp) (aB hn') (by simp) ?_;have s3:=jM (aB hn') (aB hn) (bd [3] st2 rfl);refine cc (sp_table_Remove z.tp[n] k.tabs[n] _) (i:=0) rfl s3 fun v h4 hv s4=>?_;subst hv;unfold PK.errs PK.remove;unfold PK.remove at ok2;rw [ht] at ok2 ⊢;exact ba rfl (di (k:={ k with tabs:=_ }) (by simpa using hz) ok2 (bd [1,1,1] (yf (aB hn') hn hz s4) rfl))
   refine aX (fun c8=>?_) (fun c8=>?_)
   ·have ed:PK.does k e c = PK.errs (PK.protect k e (i64.wrap c.e1) (i64.wrap c.e2)):=by unfold PK.does; rw [if_neg (by simpa using c1),if_neg (by simpa using c2),if_neg (by simpa using c3),if_neg (by simpa using c4),if_neg (by simpa using c5),if_neg (by simpa using c6),if_neg (by simpa using c7),if_pos (by simpa using c8)]
    rw [ed];exact cc (sp_plain_protect (some (z.b,0)) k e _ _ d) (i:=0) rfl s2 fun v h3 hv s3=>ba (by rw [hv]; rfl) s3
   refine aX (fun c9=>?_) (fun c9=>?_)
   ·have ed:PK.does k e c = (PK.sleep k e c,k):=by unfold PK.does; rw [if_neg (by simpa using c1),if_neg (by simpa using c2),if_neg (by simpa using c3),if_neg (by simpa using c4),if_neg (by simpa using c5),if_neg (by simpa using c6),if_neg (by simpa using c7),if_neg (by simpa using c8),if_pos (by simpa using c9)]
    rw [ed];exact cc (sp_plain_sleep (some (z.b,0)) k e c) (i:=0) rfl s2 fun v h3 hv s3=>ba (by rw [hv]) s3
   refine aX (fun c10=>?_) (fun c10=>?_)
   ·have ed:PK.does k e c = ((⟨0,0⟩,true),k):=by unfold PK.does; rw [if_neg (by simpa using c1),if_neg (by simpa using c2),if_neg (by simpa using c3),if_neg (by simpa using c4),if_neg (by simpa using c5),if_neg (by simpa using c6),if_neg (by simpa using c7),if_neg (by simpa using c8),if_neg (by simpa using c9),if_pos (by simpa using c10)]
    rw [ed];exact ba rfl s2
   have ed:PK.does k e c = (((PK.user k e c).1,true),(PK.user k e c).2):=by unfold PK.does; rw [if_neg (by simpa using c1),if_neg (by simpa using c2),if_neg (by simpa using c3),if_neg (by simpa using c4),if_neg (by simpa using c5),if_neg (by simpa using c6),if_neg (by simpa using c7),if_neg (by simpa using c8),if_neg (by simpa using c9),if_neg (by simpa using c10)]
   rw [ed];exact cc (sp_plain_user (some (z.b,0)) k e c d) (i:=0) rfl s2 fun v h3 hv s3=>ba (by rw [hv]) s3
theorem sp_plain_Free (x:Ptr) (k:PK):Sp prog ni [pv x] aU [bB x k] (fun r=>ay [vI r (Pool.free k.pool),bB x k]):=by
 intro h s0;obtain ⟨z,rfl,h1,ok,hl,st⟩:=ge s0;refine sim_plain_Kernel_Free _ ?_;unfold ru;refine dN rfl (cL (bt z.pp st (i:=0) rfl rfl rfl ?_));refine ui (sp_pool_Free z.pp k.pool) (i:=4) rfl st fun v h2 s2=>?_;exact star_tail s2 fun h3 s3=>di h1 ok s3
theorem new_eq (s:gX) (n:Nat) (hn:s.fIa = n) (m:Nat) (hm:s.fYa = m):PK.new s = ⟨s,replicate m (replicate 16 0),replicate n (replicate 8 eW),replicate m 0,replicate n (replicate 8 rZ)⟩:=by
 unfold PK.new; rw [hn,hm]; rfl
theorem sN (s:gX) (hs:PK.sized s = true):Sp prog oE [.agg s.C.toArray] eA [] (fun r=>ay [bB r (PK.new s)]):=by
 intro h st;refine sim_plain_New _ ?_;unfold sh_plain_New;refine dN ?_ ?_
 ·unfold PK.sized at hs; simpa using hs
 ·skip
  have hs':=jR.1 hs;have okn:=ok_new hs;obtain ⟨n,hn⟩:=Int.eq_ofNat_of_zero_le (show 0 <= s.fIa by omega);obtain ⟨m,hm⟩:=Int.eq_ofNat_of_zero_le (show 0 <= s.fYa by omega);rw [new_eq s n hn m hm] at okn ⊢;refine nl (sp_mem_New s.fYa (by omega) (by omega)) st fun pm h1 s1=>?_;refine nl (sp_pool_New s.fYa (by omega) (by omega)) s1 fun pp h2 s2=>?_;refine nl (sp_caps_New s.fIa (by omega) (by omega)) s2 fun pc h3 s3=>?_;refine pC s3 fun b h4 s4=>?_;have s5:=fu (τ:=Ptr) (T:=eQ) (m:=1) (enc:=cP) (all_nil (A:=df) s4);simp only [hn,hm,Int.toNat_natCast] at s5;refine Lp.intro (fun (i:Int) h=>∃ (j:Nat) (ts:Sl) (tp:List Ptr),i = j/\j <= n/\tp.length = j/\ay [vQ eQ ts tp,all df tp (replicate j (replicate 8 eW)),blk b cE (qR s ⟨b,pm,ts,tp,pp,pc⟩),cO pc (replicate n (replicate 8 rZ)),gq pp (replicate m 0),iQ pm (replicate m (replicate 16 0))] h) (fun (i:Int) _=>n - i.toNat) ⟨0,⟨none,0,0,none⟩,[],rfl,zero_le _,rfl,?_⟩ ?_
  ·have:qR s ⟨b,pm,⟨none,0,0,none⟩,[],pp,pc⟩ = gI.C (⟨s,pm,(⟨none,0,0,none⟩:Sl),pp,pc⟩:gI):=rfl;rw [this]; exact s5
  ·rintro i h ⟨j,ts,tp,rfl,hj,htp,s6⟩;unfold xI;refine aX (fun d2=>?_) (fun d2=>?_)
   ·have hlt:j < n:=by rw [hn] at d2; simpa using d2
    have hw:i64.wrap ((j:Int) + 1) = ((j + 1:Nat):Int):=by rw [bp (by omega) (by omega)]; rfl
    have fin:∀ (r53:Ptr) (v55:Sl) (h:Hp),ay [vQ eQ v55 (tp++[r53]),df r53 (replicate 8 eW),all df tp (replicate j (replicate 8 eW)),blk b cE (qR s ⟨b,pm,ts,tp,pp,pc⟩),cO pc (replicate n (replicate 8 rZ)),gq pp (replicate m 0),iQ pm (replicate m (replicate 16 0))] h ->
      Mb.st (b,4) [sv v55] (fun h=>(∃ (j':Nat) (ts:Sl) (tp:List Ptr),((j + 1:Nat):Int) = j'/\j' <= n/\tp.length = j'/\ay [vQ eQ ts tp,all df tp (replicate j' (replicate 8 eW)),blk b cE (qR s ⟨b,pm,ts,tp,pp,pc⟩),cO pc (replicate n (replicate 8 rZ)),gq pp (replicate m 0),iQ pm (replicate m (replicate 16 0))] h)/\n - ((j + 1:Nat):Int).toNat < n - (j:Int).toNat) h:=by
     intro r53 v55 h s7;refine vv (i:=3) s7 rfl (show 4 + 1 <= 7 by decide) fun h8 s8=>?_;refine ⟨⟨j + 1,v55,tp++[r53],rfl,hlt,by simp [htp],?_⟩,by simp; omega⟩;have s9:=all_push (by simp [htp]) (bd [1,1] s8 rfl);have e:replicate j (replicate 8 eW)++[replicate 8 eW] = replicate (j + 1) (replicate 8 eW):=List.replicate_succ'.symm;rw [e] at s9;exact bd [1] s9 rfl
    rw [hw];refine ⟨?_,?_⟩
    ·refine bt ts s6 (i:=2) rfl rfl rfl ?_;refine nl oY s6 fun r53 h7 s7=>?_;refine kZ (τ:=Ptr) (i:=1) (enc:=cP) (val:=fun x=>pv x) wR iq cP_one (fun _=>rfl) (by omega) rfl rfl s7 rfl (by omega) (by omega) fun v h8 s8=>?_;exact fin r53 v h8 (bd [1] s8 rfl)
    ·refine nl oY s6 fun r53 h7 s7=>?_;refine bt ts s7 (i:=3) rfl rfl rfl ?_;refine kZ (τ:=Ptr) (i:=1) (enc:=cP) (val:=fun x=>pv x) wR iq cP_one (fun _=>rfl) (by omega) rfl rfl s7 rfl (by omega) (by omega) fun v h8 s8=>?_;exact fin r53 v h8 (bd [1] s8 rfl)
   ·have:j = n:=by rw [hn] at d2; simp at d2; omega
    subst this;refine di (z:=⟨b,pm,ts,tp,pp,pc⟩) ?_ okn (bd [2,4,0,0,1] s6 rfl);simpa using htp
end
end Go.Proofs.YtochchocdckegaaGreatDoor
