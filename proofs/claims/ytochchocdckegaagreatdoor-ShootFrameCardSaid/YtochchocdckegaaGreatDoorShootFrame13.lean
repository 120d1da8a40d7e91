/- Part of the proof of: The law ShootFrame returns true for every input, and leaves its arguments as they were. -/
import Derived.Test.YtochchocdckegaaGreatDoorShootFrame12
set_option linter.all false
set_option maxRecDepth 20000
namespace Go.Proofs.YtochchocdckegaaGreatDoor
open Go.Proofs.Tryz
open Go.IntKind (i64 u64)
open _root_.Int (le_refl toNat_natCast)
open _root_.List (replicate set_set)
open _root_.Nat (le_of_ble_eq_true)
section
open Go Mb
structure KZ where
 b:Nat
 pp:Ptr
 ts:Sl
 tp:List Ptr
 pm:Ptr
 pe:Ptr
 cs:Sl
 cp:List Ptr
 es:Sl
abbrev kcl (z:KZ) (k:KK):List Value:=[pv z.pp,.int .i64 k.p.s.fJa,sv z.ts,pv z.pm,pv z.pe,sv z.cs,sv z.es,.int .i64 k.now]
abbrev nl (z:KZ) (k:KK):List As:=[blk z.b cq (kcl z k),bu z.pp k.p,vQ tN z.ts z.tp,all fZ z.tp k.fNa,jL z.pm k.fKa,fG z.pe k.fFa,vQ fQ z.cs z.cp,all jh z.cp k.calls,vE z.es k.events]
structure KZ.Ok (z:KZ) (k:KK):Prop where
 t:z.tp.length = k.fNa.length
 c:z.cp.length = k.calls.length
def ce (x:Ptr) (k:KK):As:=fun h=>∃ z:KZ,(x = some (z.b,0)/\KZ.Ok z k/\KK.Ok k)/\aB (nl z k) h
theorem tt {x:Ptr} {k:KK} {l:List As} {h:Hp} (s0:aB (ce x k::l) h):∃ z:KZ,x = some (z.b,0)/\KZ.Ok z k/\KK.Ok k/\aB (nl z k++l) h:=by
 obtain ⟨z,⟨hx,h1,ok⟩,st⟩:=op_ s0;exact ⟨z,hx,h1,ok,st⟩
theorem pW {z:KZ} {k:KK} {l:List As} {h:Hp} (h1:KZ.Ok z k) (ok:KK.Ok k) (st:aB (nl z k++l) h):aB (ce (some (z.b,0)) k::l) h :=
 cl_ (m:=fun z:KZ=>nl z k) z ⟨rfl,h1,ok⟩ st
theorem kk_len {k:KK} (ok:KK.Ok k):k.fNa.length = k.calls.length/\k.fKa.length = k.calls.length/\k.fFa.2.length = k.calls.length/\1 <= k.calls.length/\k.calls.length <= 8:=by
 have h1:=ok.tl; have h2:=ok.bl; have h3:=ok.el; have h4:=ok.cl; have h5:=fV.1 ok.p.sz;omega
theorem is_nat {k:KK} {c:Int} (h:KK.is k c = true):∃ n:Nat,c = n/\n < k.calls.length:=by
 have:=of_decide_eq_true (show decide (0 <= c/\c < (k.calls.length:Int)) = true from h);exact ⟨c.toNat,by omega,by omega⟩
theorem call_nat {k:KK} {n:Nat} (h:n < k.calls.length):KK.call k n = k.calls[n]:=by simp [KK.call,h]
theorem buf_nat {k:KK} {n:Nat} (h:n < k.fNa.length):KK.buf k n = k.fNa[n]:=by simp [KK.buf,h]
theorem xE (x:Ptr) (k:KK) (c:Int):Sp prog kg [pv x,.int .i64 c] aC [ce x k] (fun r=>pa_ (r = KK.is k c) [ce x k]):=by
 intro h s0;obtain ⟨z,rfl,zo,ok,st⟩:=tt s0;have hcs:=(cj (j:=6) st rfl).1;refine sim_kern_Kern_is _ _ ?_;unfold sh_kern_Kern_is;refine aY (fun d=>?_) (fun d=>?_)
 ·have d':0 <= c:=by simpa using d
  refine cO (bq z.cs st (i:=0) rfl rfl rfl ?_);exact ba (by rw [hcs,zo.c]; simp [KK.is,d']) s0
 ·have d':¬ 0 <= c:=by simpa using d
  exact ba (by simp [KK.is]; intro h; exact absurd h d') s0
theorem mL (x:Ptr) (k:KK) (c:Int):Sp prog fE [pv x,.int .i64 c] aC [ce x k] (fun r=>pa_ (r = KK.busy k c) [ce x k]):=by
 intro h s0;refine sim_kern_Kern_Busy _ _ ?_;unfold vp;refine bM (xE x k c) (i:=0) rfl s0 fun r h1 hr s1=>?_;subst hr;refine aY (fun d=>?_) (fun d=>?_)
 ·obtain ⟨n,rfl,hn⟩:=is_nat d;obtain ⟨z,rfl,zo,ok,st⟩:=tt s1;have hcs:=(cj (j:=6) st rfl).1;have hn':n < z.cp.length:=by rw [zo.c]; exact hn
  refine cO (bq z.cs st (i:=0) rfl rfl rfl ?_);refine dk st (j:=6) rfl (by omega) (by omega) fun q hq=>?_;refine dD (j:=6) (i:=n) (k:=0) z.cp[n] iz st rfl hq (by simp) (aF hn') (by simp) ?_;refine ba ?_ s1;unfold KK.busy;rw [d,call_nat hn];cases hc:k.calls[n] with
  | none =>
   have:=call_none (j:=7) st rfl (aF hn') (by rw [aF hn,hc]);rw [this]; rfl
  | some y =>
   obtain ⟨b,hp,_⟩:=xp (j:=7) st rfl (aF hn') (by rw [aF hn,hc]);rw [hp]; rfl
 ·exact ba (by unfold KK.busy; rw [d]; rfl) s1
theorem ri (x:Ptr) (k:KK) (core env:Int) (c:cK) (hn:k.now < 2 ^ 38):Sp prog gS [pv x,.int .i64 core,.int .i64 env,.agg c.C.toArray] aC [ce x k] (fun r=>pa_ (r = (KK.begin_ k core env c).1) [ce x (KK.begin_ k core env c).2]):=by
 intro h s0;refine sim_kern_Kern_Begin _ _ _ _ ?_;unfold tW;have no:(KK.is k core = false\/KK.busy k core = true\/env < 0\/env >= k.p.s.fJa)->KK.begin_ k core env c = (false,k):=fun hh=>if_pos hh;refine bM (xE x k core) (i:=0) rfl s0 fun r h1 hr s1=>?_;subst hr;refine aY (fun d=>?_) (fun d=>?_)
 ·have d':KK.is k core = true:=by simpa using d
  refine bM (mL x k core) (i:=0) rfl s1 fun r h2 hr s2=>?_;subst hr;refine aY (fun d2=>?_) (fun d2=>?_)
  ·have d2':KK.busy k core = false/\¬ env < 0:=by simpa using d2
   obtain ⟨z,rfl,zo,ok,st⟩:=tt s2;refine cO (bq k.p.s.fJa st (i:=0) rfl rfl rfl ?_);refine aY (fun d3=>?_) (fun d3=>?_)
   ·rw [no (.inr (.inr (.inr (by simpa using d3))))];exact ba rfl s2
   ·have d3':¬ env >= k.p.s.fJa:=by simpa using d3
    have ok2:=kok_begin ok (by omega) core env c;have e1:KK.begin_ k core env c = (true,{ k with now:=i64.wrap (k.now + 1),events:=k.events++[KK.ev0 core env c (i64.wrap (k.now + 1))],calls:=k.calls.set core.toNat (some ⟨k.events.length,env,c,false,0⟩) }):=by
     unfold KK.begin_; rw [if_neg]; simp [d',d2'.1]; omega
    rw [e1] at ok2 ⊢;obtain ⟨n,rfl,hcn⟩:=is_nat d';have hn':n < z.cp.length:=by rw [zo.c]; exact hcn
    have hcs:=(cj (j:=6) st rfl).1;have hel:=ok.evn;refine bq k.now st (i:=0) rfl rfl rfl ?_;refine vZ (i:=0) st rfl (le_of_ble_eq_true rfl) fun h3 s3=>?_;refine bq (i64.wrap (k.now + 1)) s3 (i:=0) rfl rfl rfl ?_;refine bq z.es s3 (i:=0) rfl rfl rfl ?_;refine lr (τ:=bp) (i:=8) (enc:=aG.C) (val:=fun x=>.agg x.C.toArray) (x:=KK.ev0 n env c (i64.wrap (k.now + 1))) ro lH ev_one (fun _=>rfl) (by omega) rfl rfl s3 rfl (by omega) (by omega) fun v h4 s4=>?_;refine vZ (i:=0) s4 rfl (le_of_ble_eq_true rfl) fun h5 s5=>?_;refine bq v s5 (i:=0) rfl rfl rfl ?_;have hvl:=(cj (j:=8) s5 rfl).1;refine bq z.cs s5 (i:=0) rfl rfl rfl ?_;have hw:i64.wrap ((v.len:Int) - 1) = k.events.length:=by rw [hvl]; rw [bm] <;> simp <;> omega
    rw [hw];refine pL s5 fun b68 h6 s6=>?_;refine dk s6 (j:=7) rfl (by omega) (by omega) fun q hq=>?_;refine uJ (j:=7) (i:=n) (k:=0) (some (b68,0):Ptr) iz s6 rfl hq (by simp) (aF hn') (by simp) rfl fun h7 s7=>?_;have s8:=bd [8] s7 rfl;have s10:=all_but (aF hn') (aF hcn) s8;have s12:=call_mk (y:=⟨k.events.length,env,c,false,0⟩) (bd [1,0] s10 rfl);have s14:=all_in2 (A:=jh) hcn zo.c s12;refine ba rfl (pW (z:={ z with es:=v,cp:=z.cp.set n (some (b68,0)) }) ⟨zo.t,by simpa using zo.c⟩ ok2 (bd [1,1,1,1,1,1,1,0,0] s14 rfl))
  ·rw [no]
   ·exact ba rfl s2
   ·simp at d2;cases hb:KK.busy k core with
    | true=>exact .inr (.inl rfl)
    | false=>exact .inr (.inr (.inl (d2 hb)))
 ·rw [no (.inl (by simpa using d))];exact ba rfl s1
theorem cleans_drop (k:KK) (ls:List jO) (n:Nat) (h:n < ls.length) (b:Buf):KK.cleans k (ls.drop n) b = if KK.stale k ls[n] = true then KK.cleans k (ls.drop (n + 1)) (Tlb.flush b ls[n].fCa ls[n].fOa).2 else KK.cleans k (ls.drop (n + 1)) b:=by
 rw [List.drop_eq_getElem_cons h,KK.cleans]
theorem sp_kern_clean (z:KZ) (k:KK) (c:Nat) (hc:c < k.calls.length) (zo:KZ.Ok z k) (ok:KK.Ok k) :
  Sp prog lQ [pv (some (z.b,0)),.int .i64 c] R_ (nl z k) (fun _=>aB (nl z (KK.clean k c))):=by
 intro h s0;obtain ⟨l1,l2,l3,l4,l5⟩:=kk_len ok;have hct:c < k.fNa.length:=by omega
 have hcp:c < z.tp.length:=by rw [zo.t]; exact hct
 have hts:=(cj (j:=2) s0 rfl).1;refine sim_kern_Kern_clean _ _ ?_;unfold tV;refine cO (bq z.ts s0 (i:=0) rfl rfl rfl ?_);refine dk s0 (j:=2) rfl (by omega) (by omega) fun q hq=>?_;refine dD (j:=2) (i:=c) (k:=0) z.tp[c] iz s0 rfl hq (by simp) (aF hcp) (by simp) ?_;have s1:=jT (aF hcp) (aF hct) (bd [3] s0 rfl);refine xo (sp_tlb_Lines z.tp[c] k.fNa[c]) (i:=0) rfl s1 fun r h2 s2=>?_;have s3:=xt (aF hcp) (aF hct) zo.t (bd [1,1] s2 rfl);have s4:aB (vL r (Tlb.lines k.fNa[c])::nl z k) h2:=bd [1,1,1,1,0] s3 rfl;have hll:(Tlb.lines k.fNa[c]).length = 8:=by
  obtain ⟨_,_,h8,_⟩:=pd s1;unfold Tlb.lines; simpa using h8
 have hrl:=(cj (j:=0) s4 rfl).1;have hbuf:KK.buf k c = k.fNa[c]:=buf_nat hct;have same:k.fNa.set c k.fNa[c] = k.fNa:=jp (aF hct);refine Lp.intro (fun (i:Int) h=>∃ (n:Nat) (b:Buf),i = n/\n <= 8/\KK.cleans k ((Tlb.lines k.fNa[c]).drop n) b = KK.cleans k (Tlb.lines k.fNa[c]) k.fNa[c]/\aB (vL r (Tlb.lines k.fNa[c])::nl z { k with fNa:=k.fNa.set c b }) h) (fun (i:Int) _=>8 - i.toNat) ⟨0,k.fNa[c],rfl,Nat.zero_le _,rfl,by rw [same]; exact s4⟩ ?_;rintro i h ⟨n,b,rfl,hn,he,s5⟩;unfold ow;refine aY (fun d=>?_) (fun d=>?_)
 ·have hlt:n < (Tlb.lines k.fNa[c]).length:=by rw [hrl] at d; simpa using d
  have hw:i64.wrap ((n:Int) + 1) = ((n + 1:Nat):Int):=by rw [bm (by omega) (by omega)]; rfl
  rw [cleans_drop k _ n hlt] at he;refine dk s5 (j:=0) rfl (by omega) (by omega) fun q2 hq2=>?_;refine dD (j:=0) (i:=n) (k:=0) (Tlb.lines k.fNa[c])[n] line_len s5 rfl hq2 (by simp) (aF hlt) (by simp) ?_;have hcb:c < (k.fNa.set c b).length:=by simpa using hct
  have hgb:(k.fNa.set c b)[c] = b:=by simp
  have j1:∀ (o:Bool × Pte) (h:Hp),((decide ((Tlb.lines k.fNa[c])[n].fCa >= 0)) && (((!o.1) || (o.2.fEa != (Tlb.lines k.fNa[c])[n].fEa)) || (!(aO (Tlb.lines k.fNa[c])[n].fBa o.2.fBa)))) = KK.stale k (Tlb.lines k.fNa[c])[n]->aB (vL r (Tlb.lines k.fNa[c])::nl z { k with fNa:=k.fNa.set c b }) h ->
    iU c (z.b,0) (fun s' h'=>(∃ (n:Nat) (b:Buf),s' = n/\n <= 8/\KK.cleans k ((Tlb.lines k.fNa[c]).drop n) b = KK.cleans k (Tlb.lines k.fNa[c]) k.fNa[c]/\aB (vL r (Tlb.lines k.fNa[c])::nl z { k with fNa:=k.fNa.set c b }) h')/\8 - s'.toNat < 8 - (n:Int).toNat) n (Tlb.lines k.fNa[c])[n] o h:=by
   intro o h hs s6;unfold iU;rw [hs,hw];refine aY (fun d2=>?_) (fun d2=>?_)
   ·rw [if_pos d2] at he;refine bq z.ts s6 (i:=1) rfl rfl rfl ?_;refine dk s6 (j:=3) rfl (by omega) (by omega) fun q3 hq3=>?_;refine dD (j:=3) (i:=c) (k:=0) z.tp[c] iz s6 rfl hq3 (by simp) (aF hcp) (by simp) ?_;have s7:=jT (aF hcp) (aF hcb) (bd [4] s6 rfl);rw [hgb] at s7;refine bM (sp_tlb_Flush z.tp[c] b _ _) (i:=0) rfl s7 fun r h8 hr s8=>?_;have s9:=yD (aF hcp) hcb (by simpa using zo.t) s8;rw [set_set] at s9;exact ⟨⟨n + 1,_,rfl,by omega,he,bd [1,1,1,1] s9 rfl⟩,by simp; omega⟩
   ·rw [if_neg (by rw [d2]; exact Bool.false_ne_true)] at he;exact ⟨⟨n + 1,b,rfl,by omega,he,s6⟩,by simp; omega⟩
  refine aY (fun d2=>?_) (fun d2=>?_)
  ·have d2':0 <= (Tlb.lines k.fNa[c])[n].fCa:=by simpa using d2
   refine cZ [1,1,5,5] (sp_kern_seen z.b z.pp (kcl z k) k.p z.cs z.cp k.calls (Tlb.lines k.fNa[c])[n].fCa (Tlb.lines k.fNa[c])[n].fOa rfl rfl zo.c l5) s5 rfl fun r h6 s6=>?_;obtain ⟨rfl,s7⟩:=bt.1 s6;refine j1 _ _ ?_ (bd [4,0,0,2,2,2,2,0,0] s7 rfl);unfold KK.stale KK.seen
   rfl
  ·have d2':¬ 0 <= (Tlb.lines k.fNa[c])[n].fCa:=by simpa using d2
   refine j1 _ _ ?_ s5;unfold KK.stale;rw [d2,Bool.false_and,Bool.false_and]
 ·have:n = 8:=by rw [hrl] at d; simp at d; omega
  subst this;rw [← hll,List.drop_length] at he;have e1:KK.clean k c = { k with fNa:=k.fNa.set c b }:=by
   unfold KK.clean;rw [hbuf,← he,toNat_natCast]; rfl
  rw [e1];exact bY (l:=[vL r (Tlb.lines k.fNa[c])]) s5
theorem sp_kern_ends (z:KZ) (k:KK) (c:Nat) (x:KC) (a:eQ) (l:jO) (hc:c < k.calls.length) (hx:k.calls[c]? = some (some x)) (zo:KZ.Ok z k) (ok:KK.Ok k) :
  Sp prog mX [pv (some (z.b,0)),.int .i64 c,.agg a.C.toArray,.agg l.C.toArray] R_ (nl z k) (fun _=>aB [ce (some (z.b,0)) (KK.ends k c x a l)]):=by
 intro h s0;have hcp:c < z.cp.length:=by rw [zo.c]; exact hc
 have hcs:=(cj (j:=6) s0 rfl).1;have hes:=(cj (j:=8) s0 rfl).1;obtain ⟨xb,hp,_⟩:=xp (j:=7) s0 rfl (aF hcp) hx;have hcpx:z.cp[c]? = some (some (xb,0)):=by rw [aF hcp,hp]
 have hcok:=ok.cs x (List.mem_of_getElem? hx);obtain ⟨i,hi⟩:=Int.eq_ofNat_of_zero_le hcok.1;have hil:i < k.events.length:=by omega
 refine sim_kern_Kern_ends _ _ _ _ ?_;unfold vj;refine cO (bq z.es s0 (i:=0) rfl rfl rfl ?_);refine bq z.cs s0 (i:=0) rfl rfl rfl ?_;refine dk s0 (j:=6) rfl (by omega) (by omega) fun q hq=>?_;refine dD (j:=6) (i:=c) (k:=0) z.cp[c] iz s0 rfl hq (by simp) (aF hcp) (by simp) ?_;rw [hp];refine cO (ld_c1 (j:=7) x.fat s0 rfl hcpx hx rfl rfl ?_);rw [hi];refine dk s0 (j:=8) rfl (by omega) (by omega) fun q2 hq2=>?_;refine bq k.now s0 (i:=0) rfl rfl rfl ?_;refine bq k.now s0 (i:=0) rfl rfl rfl ?_;refine uJ (j:=8) (i:=i) (k:=8) { k.events[i] with fHa:=k.now } lH s0 rfl hq2 rfl (aF hil) (by simp) rfl fun h1 s1=>?_;have e1:(k.events.set i { k.events[i] with fHa:=k.now })[i]? = some { k.events[i] with fHa:=k.now }:=by simp [hil]
 refine uJ (j:=8) (i:=i) (k:=9) { k.events[i] with fHa:=k.now,fXa:=k.now } lH s1 rfl hq2 rfl e1 (by simp) rfl fun h2 s2=>?_;simp only [set_set] at s2;have e2:(k.events.set i { k.events[i] with fHa:=k.now,fXa:=k.now })[i]? = some { k.events[i] with fHa:=k.now,fXa:=k.now }:=by simp [hil]
 refine uJ (j:=8) (i:=i) (k:=10) { k.events[i] with fHa:=k.now,fXa:=k.now,fYa:=a } lH s2 rfl hq2 rfl e2 (by simp [ab.C]) rfl fun h3 s3=>?_;simp only [set_set] at s3;have e3:(k.events.set i { k.events[i] with fHa:=k.now,fXa:=k.now,fYa:=a })[i]? = some { k.events[i] with fHa:=k.now,fXa:=k.now,fYa:=a }:=by simp [hil]
 refine uJ (j:=8) (i:=i) (k:=12) (KK.evend k.events[i] k.now a l) lH s3 rfl hq2 rfl e3 (by simp [ap.C]) rfl fun h4 s4=>?_;simp only [set_set] at s4;refine bq z.cs s4 (i:=0) rfl rfl rfl ?_;refine dk s4 (j:=6) rfl (by omega) (by omega) fun q5 hq5=>?_;refine uJ (j:=6) (i:=c) (k:=0) (none:Ptr) iz s4 rfl hq5 (by simp) (aF hcp) (by simp) rfl fun h5 s5=>?_;have s7:=all_but hcpx hx (bd [7] s5 rfl);have s8:=star_cons (A:=jh none none) (fun _=>rfl) s7;have s9:=all_in2 (A:=jh) hc zo.c s8;have hge:k.events.getD i (KK.ev0 0 0 ⟨0,0,0,0,0⟩ 0) = k.events[i]:=by simp [hil]
 have e4:KK.ends k c x a l = { k with events:=k.events.set i (KK.evend k.events[i] k.now a l),calls:=k.calls.set c none }:=by
  unfold KK.ends; rw [hi,toNat_natCast,toNat_natCast,hge]
 have ok2:=kok_ends ok c x a l;rw [e4] at ok2 ⊢;refine pW (z:={ z with cp:=z.cp.set c none }) ⟨zo.t,by simpa using zo.c⟩ ok2 (bd [1,1,1,1,1,1,1,0,0] s9 rfl)
end
section
open Go Mb
theorem five {x:KC}:∀ (i:Nat) (v:Value),(ah.C x.fc)[i]? = some v->x.C[2 + i]? = some v:=by
 intro j v hv;have:j < 5:=(List.getElem?_eq_some_iff.1 hv).1
 match j,this with
 | 0,_=>exact hv
 | 1,_=>exact hv
 | 2,_=>exact hv
 | 3,_=>exact hv
 | 4,_=>exact hv
theorem sp_kern_access (z:KZ) (k:KK) (c xb:Nat) (x:KC) (hc:c < k.calls.length) (hx:k.calls[c]? = some (some x)) (hp:z.cp[c]? = some (some (xb,0))) (zo:KZ.Ok z k) (ok:KK.Ok k) :
  Sp prog ol [pv (some (z.b,0)),.int .i64 c,pv (some (xb,0))] fh (nl z k) (fun r=>pa_ (r = (KK.access k c x).1) (nl z (KK.access k c x).2)):=by
 intro h s0;obtain ⟨l1,l2,l3,l4,l5⟩:=kk_len ok;have hct:c < k.fNa.length:=by omega
 have hcp:c < z.tp.length:=by rw [zo.t]; exact hct
 have hbuf:KK.buf k c = k.fNa[c]:=buf_nat hct;refine sim_kern_Kern_access _ _ _ ?_;unfold sL;refine cO (cO ?_);refine ld_c (j:=7) x.fc s0 rfl hp hx five ?_;refine bq k.p.s.fJa s0 (i:=0) rfl rfl rfl ?_;refine uM (jJ x.fc _) s0 fun r h1 hr s1=>?_;subst hr;refine aY (fun d=>?_) (fun d=>?_)
 ·have e1:KK.access k c x = ((⟨Word.check x.fc k.p.s.fJa,0⟩,jg),k):=if_pos (by simpa using d);rw [e1]; exact ba rfl s1
 ·have d':¬ Word.check x.fc k.p.s.fJa ≠ 0:=by simpa using d
  refine ld_c1 (j:=7) x.fc.e1 s1 rfl hp hx rfl rfl ?_;refine mD pj s1 fun r37 h2 s2=>?_;refine ld_c1 (j:=8) x.fGa s2 rfl hp hx rfl rfl ?_;refine cZ [1,1,5,5] (sp_kern_seen z.b z.pp (kcl z k) k.p z.cs z.cp k.calls x.fGa (i64.wrap x.fc.e1) rfl rfl zo.c l5) s2 rfl fun r h3 s3=>?_;obtain ⟨hr,s4⟩:=bt.1 s3;have hr':r = KK.seen k x.fGa (i64.wrap x.fc.e1):=hr;subst hr';have s5:aB (di r37 (replicate 8 dc)::nl z k) h3:=bd [4,0,0,2,2,2,2,0,0] s4 rfl;have j1:∀ h,aB (di r37 (KK.fGb k x.fGa (i64.wrap x.fc.e1))::nl z k) h->ii c (fun r=>pa_ (r = (KK.access k c x).1) (nl z (KK.access k c x).2)) (xb,0) (z.b,0) x.fc.e1 r37 () h:=by
   intro h s6;have hts:=(cj (j:=3) s6 rfl).1;unfold ii;refine ld_c1 (j:=8) x.fc.e0 s6 rfl hp hx rfl rfl ?_;refine bq z.ts s6 (i:=1) rfl rfl rfl ?_;refine dk s6 (j:=3) rfl (by omega) (by omega) fun q hq=>?_;refine dD (j:=3) (i:=c) (k:=0) z.tp[c] iz s6 rfl hq (by simp) (aF hcp) (by simp) ?_;refine ld_c1 (j:=8) x.fGa s6 rfl hp hx rfl rfl ?_;have s7:=jT (aF hcp) (aF hct) (bd [4] s6 rfl);refine cZ [0,1] (sp_user_Walk z.tp[c] r37 k.fNa[c] (KK.fGb k x.fGa (i64.wrap x.fc.e1)) x.fGa (i64.wrap x.fc.e1) (i64.wrap x.fc.e0)) s7 rfl fun r h8 s8=>?_;obtain ⟨hr,s9⟩:=bt.1 s8;have hr':r = (KK.fBb k c x).1:=by rw [hr]; unfold KK.fBb; rw [hbuf]
   have hw:(User.walk k.fNa[c] (KK.fGb k x.fGa (i64.wrap x.fc.e1)) x.fGa (i64.wrap x.fc.e1) (i64.wrap x.fc.e0)).2 = (KK.fBb k c x).2:=by unfold KK.fBb; rw [hbuf]
   rw [hw] at s9;subst hr';have s10:=yD (aF hcp) hct zo.t (bd [0,1] s9 rfl);refine aY (fun d2=>?_) (fun d2=>?_)
   ·have e1:KK.access k c x = ((⟨7,0⟩,jg),{ k with fNa:=k.fNa.set c (KK.fBb k c x).2 }):=by
     unfold KK.access; rw [if_neg d',if_pos (by simpa using d2),toNat_natCast]
    rw [e1];exact ba rfl (bY (l:=[di r37 _]) (bd [1,1,1,1,0] s10 rfl))
   ·have e1:KK.access k c x = (((PK.touch k.p (KK.fBb k c x).1.1.fEa x.fc).1.1,(KK.fBb k c x).1.1),{ k with fNa:=k.fNa.set c (KK.fBb k c x).2,p:=(PK.touch k.p (KK.fBb k c x).1.1.fEa x.fc).2 }):=by
     unfold KK.access; rw [if_neg d',if_neg (by simpa using d2),toNat_natCast]
    rw [e1];refine bq z.pp s10 (i:=2) rfl rfl rfl ?_;refine ld_c (j:=8) x.fc s10 rfl hp hx five ?_;refine bM (pn z.pp k.p _ x.fc) (i:=3) rfl s10 fun r h11 hr s11=>?_;subst hr;have hs:=touch_s k.p (KK.fBb k c x).1.1.fEa x.fc;refine ba rfl ?_;have s12:=bY (l:=[di r37 _]) (bd [1,1,1,1,0] s11 rfl);have ek:kcl z { k with fNa:=k.fNa.set c (KK.fBb k c x).2,p:=(PK.touch k.p (KK.fBb k c x).1.1.fEa x.fc).2 } = kcl z k:=by
     show [pv z.pp,Value.int .i64 (PK.touch k.p (KK.fBb k c x).1.1.fEa x.fc).2.s.fJa,_,_,_,_,_,_] = _;rw [hs]
    show aB (blk z.b cq (kcl z _)::_) _;rw [ek];exact s12
  refine aY (fun d2=>?_) (fun d2=>?_)
  ·refine bM (kY r37 _ (i64.wrap x.fc.e1) (KK.seen k x.fGa (i64.wrap x.fc.e1)).1) (i:=0) rfl s5 fun r h6 hr s6=>j1 _ ?_;have e1:KK.fGb k x.fGa (i64.wrap x.fc.e1) = (Table.insert (replicate 8 dc) (i64.wrap x.fc.e1) (KK.seen k x.fGa (i64.wrap x.fc.e1)).1).2:=if_pos d2;rw [e1]; exact s6
  ·have e1:KK.fGb k x.fGa (i64.wrap x.fc.e1) = replicate 8 dc:=if_neg (by rw [d2]; exact Bool.false_ne_true);exact j1 _ (by rw [e1]; exact s5)
theorem access_calls (k:KK) (c:Int) (x:KC):(KK.access k c x).2.calls = k.calls:=by
 unfold KK.access
 repeat' split
 all_goals rfl
theorem access_tlen (k:KK) (c:Int) (x:KC):(KK.access k c x).2.fNa.length = k.fNa.length:=by
 unfold KK.access
 repeat' split
 all_goals simp
theorem kz_tlbs {z:KZ} {k k':KK} (zo:KZ.Ok z k) (h1:k'.fNa.length = k.fNa.length) (h2:k'.calls.length = k.calls.length):KZ.Ok z k':=⟨by rw [h1]; exact zo.t,by rw [h2]; exact zo.c⟩
theorem xF (x:Ptr) (k:KK) (c:Int) (hn:k.now < 2 ^ 37):Sp prog kh [pv x,.int .i64 c] aC [ce x k] (fun r=>pa_ (r = (KK.step k c).1) [ce x (KK.step k c).2]):=by
 intro h s0;refine sim_kern_Kern_Step _ _ ?_;unfold vm;refine bM (mL x k c) (i:=0) rfl s0 fun r h1 hr s1=>?_;subst hr;refine aY (fun d=>?_) (fun d=>?_)
 ·have e1:KK.step k c = (false,k):=if_pos (by simpa using d);rw [e1]; exact ba rfl s1
 ·have d':KK.busy k c = true:=by simpa using d
  obtain ⟨hi,y,hy⟩:=busy_is d';have e1:KK.step k c = (true,KK.work (KK.tick k) c y):=by unfold KK.step; rw [if_neg (by simp [d']),hy]
  rw [e1];obtain ⟨z,rfl,zo,ok,st⟩:=tt s1;have okt:=kok_tick ok (by omega);obtain ⟨n,rfl,hnc⟩:=is_nat hi;obtain ⟨l1,l2,l3,l4,l5⟩:=kk_len ok;have hnp:n < z.cp.length:=by rw [zo.c]; exact hnc
  have hcs:=(cj (j:=6) st rfl).1;have hxn:k.calls[n]? = some (some y):=by rw [aF hnc,← call_nat hnc,hy]
  have hep:=ok.epn;have hwn:=wrapN ok.n0 (show k.now < 2 ^ 40 by omega);refine cO (bq k.now st (i:=0) rfl rfl rfl ?_);refine vZ (i:=0) st rfl (le_of_ble_eq_true rfl) fun h2 s2=>?_;have s3:aB (nl z (KK.tick k)) h2:=s2;have zot:KZ.Ok z (KK.tick k):=⟨zo.t,zo.c⟩
  have hxt:(KK.tick k).calls[n]? = some (some y):=hxn;have hyt:KK.call (KK.tick k) n = some y:=hy;have hit:KK.is (KK.tick k) n = true:=hi;have hept:((KK.tick k).fFa.1.length:Int) + 1 <= (KK.tick k).now:=by show _ <= i64.wrap (k.now + 1); rw [hwn]; simp only [KK.tick]; omega
  have hnt:(KK.tick k).now <= 2 ^ 37:=by show i64.wrap (k.now + 1) <= _; rw [hwn]; omega
  have okw:=kok_work okt hept hyt hit;have hnct:n < (KK.tick k).calls.length:=hnc;generalize KK.tick k = kt at *
  obtain ⟨xb,hp,_⟩:=xp (j:=7) s3 rfl (aF hnp) hxt;have hpx:z.cp[n]? = some (some (xb,0)):=by rw [aF hnp,hp]
  refine bq z.cs s3 (i:=0) rfl rfl rfl ?_;refine dk s3 (j:=6) rfl (by omega) (by omega) fun q hq=>?_;refine dD (j:=6) (i:=n) (k:=0) z.cp[n] iz s3 rfl hq (by simp) (aF hnp) (by simp) ?_;rw [hp];refine cO (ld_c (j:=7) y.fc s3 rfl hpx hxt five ?_);refine aY (fun d2=>?_) (fun d2=>?_)
  ·have ew:KK.work kt n y = KK.ends (KK.access kt n y).2 n y (KK.access kt n y).1.1 (KK.access kt n y).1.2:=if_pos d2;rw [ew];have oka:=kok_access okt n y;have hca:(KK.access kt n y).2.calls = kt.calls:=access_calls _ _ _;have hta:(KK.access kt n y).2.fNa.length = kt.fNa.length:=access_tlen _ _ _;refine cZ [0,0,0,0,0,0,0,0,0] (sp_kern_access z kt n xb y hnct hxt hpx zot okt) s3 rfl fun r h4 s4=>?_;obtain ⟨hr,s5⟩:=bt.1 s4;subst hr;refine cZ [0,0,0,0,0,0,0,0,0] (sp_kern_ends z (KK.access kt n y).2 n y (KK.access kt n y).1.1 (KK.access kt n y).1.2 (by rw [hca]; exact hnct) (by rw [hca]; exact hxt) (kz_tlbs zot hta (by rw [hca])) oka) s5 rfl fun r h6 s6=>?_;exact ba rfl (dH s6)
  ·have d2':¬ bE (az y.fc).1 = true:=by rw [d2]; exact Bool.false_ne_true
   have j2:∀ b:Bool,(y.fPa = false/\KK.takes kt.p y = true) = False->b = (y.fPa && !(fLa.done kt.fFa y.fAb))->∀ h,aB (nl z kt) h->jB n (fun r=>pa_ (r = true) [ce (some (z.b,0)) (KK.work kt n y)]) (z.b,0) (xb,0) b h:=by
    intro b hno hb h s4;have ew:KK.work kt n y = (if y.fPa = true/\fLa.done kt.fFa y.fAb = false then kt else if (PK.do_ kt.p y.fGa y.fc).1.2 = true then KK.ends { kt with p:=(PK.do_ kt.p y.fGa y.fc).2 } n y (PK.do_ kt.p y.fGa y.fc).1.1 jg else { kt with p:=(PK.do_ kt.p y.fGa y.fc).2 }):=by
     unfold KK.work;rw [if_neg d2',if_neg (by rw [hno]; exact not_false)]
    rw [ew] at okw ⊢;unfold jB;refine aY (fun d4=>?_) (fun d4=>?_)
    ·have d4':y.fPa = true/\fLa.done kt.fFa y.fAb = false:=by rw [hb] at d4; simpa using d4
     rw [if_pos d4'];exact ba rfl (pW zot okt s4)
    ·have d4':¬ (y.fPa = true/\fLa.done kt.fFa y.fAb = false):=by rw [hb] at d4; simpa using d4
     rw [if_neg d4'] at okw ⊢;refine bq z.pp s4 (i:=0) rfl rfl rfl ?_;refine ld_c1 (j:=7) y.fGa s4 rfl hpx hxt rfl rfl ?_;refine ld_c (j:=7) y.fc s4 rfl hpx hxt five ?_;refine bM (kz z.pp kt.p y.fGa y.fc) (i:=1) rfl s4 fun r h5 hr s5=>?_;subst hr;have hs:=do_s kt.p y.fGa y.fc;have s6:aB (nl z { kt with p:=(PK.do_ kt.p y.fGa y.fc).2 }) h5:=by
      show aB (blk z.b cq [pv z.pp,Value.int .i64 (PK.do_ kt.p y.fGa y.fc).2.s.fJa,_,_,_,_,_,_]::_) _;rw [hs]; exact s5
     have okp:=kok_p okt (ok_do okt.p y.fGa y.fc) hs;refine aY (fun d5=>?_) (fun d5=>?_)
     ·rw [if_pos d5];refine cZ [0,0,0,0,0,0,0,0,0] (sp_kern_ends z { kt with p:=(PK.do_ kt.p y.fGa y.fc).2 } n y (PK.do_ kt.p y.fGa y.fc).1.1 jg hnct hxt ⟨zot.t,zot.c⟩ okp) s6 rfl fun r h7 s7=>?_;exact ba rfl (dH s7)
     ·rw [if_neg (by rw [d5]; exact Bool.false_ne_true)];exact ba rfl (pW (k:={ kt with p:=_ }) ⟨zot.t,zot.c⟩ okp s6)
   refine ld_c1 (j:=7) y.fPa s3 rfl hpx hxt rfl rfl ?_;refine aY (fun d3=>?_) (fun d3=>?_)
   ·have d3':y.fPa = false:=by simpa using d3
    obtain ⟨xb',hp',s4⟩:=call_out hpx hxt (bd [7] s3 rfl);cases hp';refine cZ [2,0,1] (sp_kern_takes z.b xb z.pp (kcl z kt) kt.p y rfl rfl) s4 rfl fun r h5 s5=>?_;obtain ⟨hr,s6⟩:=bt.1 s5;subst hr;unfold jC;refine aY (fun d4=>?_) (fun d4=>?_)
    ·have ew:KK.work kt n y = KK.send (KK.clean (KK.tell kt n y) n) n y:=by unfold KK.work; rw [if_neg d2',if_pos ⟨d3',d4⟩]
     rw [ew] at okw ⊢;refine vZ (i:=1) s6 rfl (le_of_ble_eq_true rfl) fun h7 s7=>?_;have s8:=call_in (y:={ y with fPa:=true }) hpx hnct zot.c (bd [1,2] s7 rfl);have s9:aB (nl z (KK.tell kt n y)) h7:=bd [1,1,1,1,1,1,1,0,0] s8 rfl;have okl:KK.Ok (KK.tell kt n y):=kok_call okt n hyt (y:={ y with fPa:=true }) rfl rfl;have hll:n < (KK.tell kt n y).calls.length:=by simpa [KK.tell] using hnct
     have zol:KZ.Ok z (KK.tell kt n y):=⟨zot.t,by simpa [KK.tell] using zot.c⟩
     refine cZ [0,0,0,0,0,0,0,0,0] (sp_kern_clean z (KK.tell kt n y) n hll zol okl) s9 rfl fun r h10 s10=>?_;have s11:=dH s10;have hcc:(KK.clean (KK.tell kt n y) n).calls[n]? = some (some { y with fPa:=true }):=by simp [KK.clean,KK.tell,hnct]
     have okc:=kok_clean okl n;have zoc:KZ.Ok z (KK.clean (KK.tell kt n y) n):=⟨by simpa [KK.clean] using zol.t,zol.c⟩
     have hepc:((KK.clean (KK.tell kt n y) n).fFa.1.length:Int) + 1 <= kt.now:=hept;have hbx:=okc.bx;have htl:(KK.clean (KK.tell kt n y) n).calls = kt.calls.set n (some { y with fPa:=true }):=rfl;have hnow:(KK.clean (KK.tell kt n y) n).now = kt.now:=rfl;generalize KK.clean (KK.tell kt n y) n = kc at *
     have hncc:n < kc.calls.length:=by rw [htl]; simpa using hnct
     refine bq z.pe s11 (i:=0) rfl rfl rfl ?_;refine bM (sp_epoch_Begin z.pe kc.fFa n (by omega)) (i:=5) rfl s11 fun r h12 hr s12=>?_;subst hr;obtain ⟨xb',hp',s13⟩:=call_out hpx hcc (bd [7] s12 rfl);cases hp';refine vZ (i:=0) s13 rfl (le_of_ble_eq_true rfl) fun h14 s14=>?_;have s15:=call_in (y:={ y with fPa:=true,fAb:=(fLa.begin_ kc.fFa n).1.1 }) hpx hncc zoc.c s14;refine bq z.pm s15 (i:=1) rfl rfl rfl ?_;have hxe:(kc.calls.set n (some { y with fPa:=true,fAb:=(fLa.begin_ kc.fFa n).1.1 }))[n]? = some (some { y with fPa:=true,fAb:=(fLa.begin_ kc.fFa n).1.1 }):=by simp [hncc]
     refine ld_c1 (j:=0) (fLa.begin_ kc.fFa n).1.1 s15 rfl hpx hxe rfl rfl ?_;have he:fLa.is kc.fFa n = true:=by
      unfold fLa.is;have:=okc.el;have:=okc.cl;exact decide_eq_true (by omega)
     have eb:(fLa.begin_ kc.fFa n).1.1 = (kc.fFa.1.length:Int) + 1:=by unfold fLa.begin_; rw [if_pos he]
     refine bM (sp_mail_All z.pm kc.fKa n (fLa.begin_ kc.fFa n).1.1 ?_) (i:=5) rfl s15 fun r h16 hr s16=>?_
     ·intro l hl;rw [eb];exact box_fit (hbx l hl) (by omega)
     ·refine ba rfl (pW (k:=KK.send kc n y) ⟨zoc.t,by simpa [KK.send] using zoc.c⟩ okw (bd [1,1,1,1,1,1,1,0,0] s16 rfl))
    ·have hno:(y.fPa = false/\KK.takes kt.p y = true) = False:=by simp [d4]
     have s8:=call_in (y:=y) hpx hnct zot.c (bd [1,2] s6 rfl);rw [jp hxt] at s8;have s9:aB (nl z kt) h5:=bd [1,1,1,1,1,1,1,0,0] s8 rfl;refine ld_c1 (j:=7) y.fPa s9 rfl hpx hxt rfl rfl ?_;refine dx d3' ?_;exact j2 false hno (by rw [d3']; rfl) _ s9
   ·have d3':y.fPa = true:=by simpa using d3
    unfold jC;refine dx rfl ?_;refine ld_c1 (j:=7) y.fPa s3 rfl hpx hxt rfl rfl ?_;refine dW d3' ?_;refine bq z.pe s3 (i:=0) rfl rfl rfl ?_;refine ld_c1 (j:=7) y.fAb s3 rfl hpx hxt rfl rfl ?_;refine bM (sp_epoch_Done z.pe kt.fFa y.fAb) (i:=5) rfl s3 fun r h4 hr s4=>?_;subst hr;exact j2 _ (by simp [d3']) (by rw [d3']; rfl) _ s4
theorem sp_kern_Post (x:Ptr) (k:KK) (c:Int) (hn:k.now < 2 ^ 37):Sp prog mY [pv x,.int .i64 c] aC [ce x k] (fun r=>pa_ (r = (KK.post k c).1) [ce x (KK.post k c).2]):=by
 intro h s0;refine sim_kern_Kern_Post _ _ ?_;unfold vn;refine bM (xE x k c) (i:=0) rfl s0 fun r h1 hr s1=>?_;subst hr;refine aY (fun d=>?_) (fun d=>?_)
 ·have e1:KK.post k c = (false,k):=if_pos (by simpa using d);rw [e1]; exact ba rfl s1
 ·have d':KK.is k c = true:=by simpa using d
  obtain ⟨z,rfl,zo,ok,st⟩:=tt s1;have okp:=kok_post ok (by omega) c;obtain ⟨n,rfl,hnc⟩:=is_nat d';refine cO (bq z.pm st (i:=0) rfl rfl rfl ?_);refine bM (sp_mail_Take z.pm k.fKa n) (i:=4) rfl st fun r h2 hr s2=>?_;subst hr;refine aY (fun d2=>?_) (fun d2=>?_)
  ·have d2':(Mail.take k.fKa n).1.2 = false:=by simpa using d2
   have e1:KK.post k n = (false,k):=by unfold KK.post; rw [if_neg (by simp [d']),if_pos d2']
   have e2:(Mail.take k.fKa n).2 = k.fKa:=by
    unfold Mail.take at d2' ⊢; split
    ·rfl
    ·rename_i hh; rw [if_neg hh] at d2'; cases d2'
   rw [e1];rw [e2] at s2;exact ba rfl (pW zo ok s2)
  ·have e1:KK.post k n = (true,{ KK.clean { KK.tick k with fKa:=(Mail.take k.fKa n).2 } n with fFa:=(fLa.ack k.fFa n (Mail.take k.fKa n).1.1).2 }):=by
    unfold KK.post; rw [if_neg (by simp [d']),if_neg (by simpa using d2)]
   rw [e1] at okp ⊢;refine bq k.now s2 (i:=0) rfl rfl rfl ?_;refine vZ (i:=0) s2 rfl (le_of_ble_eq_true rfl) fun h3 s3=>?_;have s4:aB (nl z { KK.tick k with fKa:=(Mail.take k.fKa n).2 }) h3:=s3;have okt:=kok_tick ok (by omega);have hbl:(Mail.take k.fKa n).2.length = k.fKa.length:=by unfold Mail.take; split <;> simp
   have hb:∀ l ∈ (Mail.take k.fKa n).2,np k.fFa.1.length l:=by
    unfold Mail.take; split
    ·exact ok.bx
    ·exact boxes_set ok.bx _ (box_drop (box_of ok.bx n))
   have ok2:KK.Ok { KK.tick k with fKa:=(Mail.take k.fKa n).2 }:=⟨okt.p,okt.tl,by simp only [hbl]; exact ok.bl,okt.el,okt.cl,okt.cs,okt.n0,okt.evn,okt.epn,hb⟩
   refine cZ [0,0,0,0,0,0,0,0,0] (sp_kern_clean z { KK.tick k with fKa:=(Mail.take k.fKa n).2 } n hnc ⟨zo.t,zo.c⟩ ok2) s4 rfl fun r h5 s5=>?_;have s6:=dH s5;refine bq z.pe s6 (i:=0) rfl rfl rfl ?_;refine bM (sp_epoch_Ack z.pe k.fFa n _) (i:=5) rfl s6 fun r h7 hr s7=>?_;refine ba rfl (pW (z:=z) ⟨?_,zo.c⟩ okp s7);simpa [KK.clean,KK.tick] using zo.t
theorem sp_kern_Mail (x:Ptr) (k:KK) (c:Int):Sp prog qX [pv x,.int .i64 c] eH [ce x k] (fun r=>pa_ (r = KK.mail k c) [ce x k]):=by
 intro h s0;refine sim_kern_Kern_Mail _ _ ?_;unfold vo;refine bM (xE x k c) (i:=0) rfl s0 fun r h1 hr s1=>?_;subst hr;refine aY (fun d=>?_) (fun d=>?_)
 ·exact ba (by unfold KK.mail; rw [if_neg (by simpa using d)]) s1
 ·obtain ⟨z,rfl,zo,ok,st⟩:=tt s1;refine cO (bq z.pm st (i:=0) rfl rfl rfl ?_);refine bM (sp_mail_Waits z.pm k.fKa c) (i:=4) rfl st fun r h2 hr s2=>?_;exact ba (by unfold KK.mail; rw [if_pos (by simpa using d),hr]) (pW zo ok s2)
theorem sp_slices_CloneE (s:Sl) (xs:List bp) (hb:xs.length < 2 ^ 38):Sp prog fx [sv s] eF [vE s xs] (fun r=>aB [vE r xs,vE s xs]):=by
 intro h s0;refine nq _ ?_;unfold iE;refine aY (fun k=>?_) (fun k=>?_)
 ·have hn:xs = []:=by
   obtain ⟨_,⟨e1,e2,e3⟩,_⟩:=eM (i:=0) rfl s0;rcases e3 with e3 | ⟨b,pre,rest,U,fr,h4,_⟩
   ·exact List.eq_nil_of_length_eq_zero (by omega)
   ·rw [h4] at k; cases k
  subst hn;exact gg s0
 ·refine ft (τ:=bp) [] (val:=fun x=>.agg x.C.toArray) (enc:=aG.C) ro lH (fun _=>rfl) s0 rfl rfl (by simp) fun y h' s1=>?_;refine uG (τ:=bp) (i:=0) (j:=1) (enc:=aG.C) (xs:=[]) (ys:=xs) ro ro.sl lH ev_one s1 rfl rfl (by omega) (by simp; omega) (by simp; omega) fun v h2 s2=>?_;exact s2
theorem pq (x:Ptr) (k:KK) (hb:k.now < 2 ^ 38):Sp prog fy [pv x] eF [ce x k] (fun r=>aB [vE r k.events,ce x k]):=by
 intro h s0;obtain ⟨z,rfl,zo,ok,st⟩:=tt s0;have:=ok.evn;refine sim_kern_Kern_Events _ ?_;unfold sM;refine dx rfl (cO (bq z.es st (i:=0) rfl rfl rfl ?_));refine xo (sp_slices_CloneE z.es k.events (by omega)) (i:=8) rfl st fun r h1 s1=>?_;exact star_tail s1 fun h2 s2=>pW zo ok s2
end
section
open Go Mb
def fF (a0:Ptr) (Rec7:kT (Bool × Int)) (s6:Bool × Int) (s11:Unit):hT:=cl prog fE [(pv a0),(.int .i64 s6.2)] aC fun r37=>cl prog fE [(pv a0),(.int .i64 s6.2)] aC fun r43=>br r43 ( cl prog kh [(pv a0),(.int .i64 s6.2)] aC fun r46=>Rec7 ((r37 || s6.1),(i64.wrap (s6.2 + 1)))) ( Rec7 ((r37 || s6.1),(i64.wrap (s6.2 + 1))))
def gU (a0:Ptr) (Rec7:kT (Bool × Int)) (s6:Bool × Int) (Rec20:kT Int) (s19:Int):hT:=br (decide (s19 < 5000)) ( cl prog qX [(pv a0),(.int .i64 s6.2)] eH fun r27=>br (decide (r27 > 0)) ( cl prog mY [(pv a0),(.int .i64 s6.2)] aC fun r34=>Rec20 (i64.wrap (s19 + 1))) ( fF a0 Rec7 s6 ())) ( fF a0 Rec7 s6 ())
def gV (a0:Ptr) (a1:Int) (K:kT Bool) (Rec2:kT Int) (s1:Int) (Rec7:kT (Bool × Int)) (s6:Bool × Int):hT:=br (decide (s6.2 < a1)) ( Lp (gU a0 Rec7 s6) 0) ( br (!s6.1) ( K true) ( Rec2 (i64.wrap (s1 + 1))))
def gT (a0:Ptr) (a1:Int) (K:kT Bool) (Rec34:kT Int) (s33:Int):hT:=br (decide (s33 < a1)) ( cl prog fE [(pv a0),(.int .i64 s33)] aC fun r56=>br r56 ( K false) ( Rec34 (i64.wrap (s33 + 1)))) ( K true)
def km (a0:Ptr) (a1:Int) (a2:Int) (K:kT Bool) (Rec2:kT Int) (s1:Int):hT:=br (decide (s1 < a2)) ( Lp (gV a0 a1 K Rec2 s1) (false,0)) ( Lp (gT a0 a1 K) 0)
def oJ (a0:Ptr) (a1:Int) (a2:Int) (K:kT Bool):hT:=Lp (km a0 a1 a2 K) 0
theorem wh (a0:Ptr) (a1:Int) (a2:Int) {K:kT Bool} {h:Hp} (H:oJ a0 a1 a2 K h):cl prog fS [(pv a0),(.int .i64 a1),(.int .i64 a2)] aC K h:=z_i func21 p p fun _=>O<|U p<|am<|O<|U p<|ax<|bv (step:=km a0 a1 a2 K) (fun s1=>[(0,(pv a0)),(1,(.int .i64 a1)),(2,(.int .i64 a2)),(7,(.int .i64 s1))]) (fun s1=>[]) H (.cons p<|.cons p<|.cons p<|.cons p<|.nil _) .slnil fun Rec2 s1 _ H3=>am<|O<|M p<|M p<|J (cn p p)<|ad<|aw p H3 (fun k4 H5=>an<|am<|ax<|O<|U p<|am<|O<|U p<|ax<|bv (step:=gV a0 a1 K Rec2 s1) (fun s6=>[(0,(pv a0)),(1,(.int .i64 a1)),(2,(.int .i64 a2)),(7,(.int .i64 s1)),(8,(.bool s6.1)),(9,(.int .i64 s6.2))]) (fun s6=>[]) H5 (.cons p<|.cons p<|.cons p<|.cons p<|.cons p<|.cons p<|.nil _) .slnil fun Rec7 s6 _ H8=>am<|O<|M p<|M p<|J (cn p p)<|ad<|aw p H8 (fun k9 H10=>an<|am<|ax<|eu (fF a0 Rec7 s6) (fun s11=>[(0,(pv a0)),(1,(.int .i64 a1)),(2,(.int .i64 a2)),(7,(.int .i64 s1)),(8,(.bool s6.1)),(9,(.int .i64 s6.2))]) (fun s11=>[]) (O<|U p<|ax<|bv (step:=gU a0 Rec7 s6) (fun s19=>[(0,(pv a0)),(1,(.int .i64 a1)),(2,(.int .i64 a2)),(7,(.int .i64 s1)),(8,(.bool s6.1)),(9,(.int .i64 s6.2)),(10,(.int .i64 s19))]) (fun s19=>[]) H10 (.cons p<|.cons p<|.cons p<|.cons p<|.cons p<|.cons p<|.cons p<|.nil _) .slnil fun Rec20 s19 _ H21=>am<|O<|M p<|J (cn p p)<|M p<|W p p (ay _) (fun g22=>wv<|ai p)<|W p p (ay _) (fun g23=>wv<|ai p)<|bW H21 (fun k25 H26=>G (F k25)<|gQ H26 en_53 (aV (aD p k25)<|aV (aD p k25) bU) p fun r27 _ H27=>G (F k25)<|z_p (pb p p)<|J (aU p k25 p)<|ad<|aw p H27 (fun k28 H29=>an<|am<|ax<|aq<|M p<|M p<|aa<|D H29 en_18 fun r34 _ H30=>ad<|aq<|M p<|J (bk p p)<|U p<|cF (i64.wrap (s19 + 1)) H30 (.cons p<|.cons p<|.cons p<|.cons p<|.cons p<|.cons p<|.cons p<|.nil _) .slnil) fun k28 H29=>bh<|cE () H29 (.cons p<|.cons p<|.cons p<|.cons p<|.cons p<|.cons p<|.nil _) .slnil) fun k25 H26=>Y (aS k25)<|Y (aS k25)<|J (au p k25 p)<|ad<|ev_no p p<|bh<|cE () H26 (.cons p<|.cons p<|.cons p<|.cons p<|.cons p<|.cons p<|.nil _) .slnil) fun s11 _ H12=>O<|M p<|M p<|aa<|D H12 en_20 fun r37 _ H13=>M p<|W p p (aN _) (fun g14=>wv<|ai p)<|J (dC p p)<|U p<|O<|M p<|M p<|aa<|D H13 en_20 fun r43 _ H15=>ad<|aw p H15 (fun k16 H17=>aq<|M p<|M p<|aa<|D H17 en_19 fun r46 _ H18=>ad<|aq<|M p<|J (bk p p)<|U p<|cF ((r37 || s6.1),(i64.wrap (s6.2 + 1))) H18 (.cons p<|.cons p<|.cons p<|.cons p<|.cons p<|.cons p<|.nil _) .slnil) fun k16 H17=>an<|aq<|M p<|J (bk p p)<|U p<|cF ((r37 || s6.1),(i64.wrap (s6.2 + 1))) H17 (.cons p<|.cons p<|.cons p<|.cons p<|.cons p<|.cons p<|.nil _) .slnil) fun k9 H10=>bh<|O<|M p<|J (cy p)<|ad<|aw p H10 (fun k31 H32=>O<|U p<|aj<|Z ⟨true,p,H32⟩) fun k31 H32=>an<|aq<|M p<|J (bk p p)<|U p<|cF (i64.wrap (s1 + 1)) H32 (.cons p<|.cons p<|.cons p<|.cons p<|.nil _) .slnil) fun k4 H5=>bh<|am<|O<|U p<|ax<|bv (step:=gT a0 a1 K) (fun s33=>[(0,(pv a0)),(1,(.int .i64 a1)),(11,(.int .i64 s33))]) (fun s33=>[]) H5 (.cons p<|.cons p<|.cons p<|.nil _) .slnil fun Rec34 s33 _ H35=>am<|O<|M p<|M p<|J (cn p p)<|ad<|aw p H35 (fun k36 H37=>an<|am<|ax<|O<|M p<|M p<|aa<|D H37 en_20 fun r56 _ H38=>ad<|aw p H38 (fun k39 H40=>O<|U p<|aj<|Z ⟨false,p,H40⟩) fun k39 H40=>an<|aq<|M p<|J (bk p p)<|U p<|cF (i64.wrap (s33 + 1)) H40 (.cons p<|.cons p<|.cons p<|.nil _) .slnil) fun k36 H37=>bh<|O<|U p<|aj<|Z ⟨true,p,H37⟩
def gH (a1:Int) (K:kT (ab × Bool)) (r24:Sl) (Rec9:kT (Int × ab)) (s8:Int × ab):hT:=br (decide (s8.1 >= 0)) ( ix r24 s8.1 fun q34=>ld (q34.1,q34.2 + Int.toNat s8.1 * 16 + 0) (cI .i64) fun x36=>br (x36 == a1) ( both ( ld (q34.1,q34.2 + Int.toNat s8.1 * 16 + 10) ab.C fun x43=>ld (q34.1,q34.2 + Int.toNat s8.1 * 16 + 9) (cI .i64) fun x48=>K (x43,(decide (x48 > 0)))) ( ld (q34.1,q34.2 + Int.toNat s8.1 * 16 + 9) (cI .i64) fun x48=>ld (q34.1,q34.2 + Int.toNat s8.1 * 16 + 10) ab.C fun x43=>K (x43,(decide (x48 > 0))))) ( Rec9 ((i64.wrap (s8.1 - 1)),s8.2))) ( K ((⟨0,0⟩:ab),false))
def rJ (a0:Ptr) (a1:Int) (a2:Int) (a3:ah) (K:kT (ab × Bool)):hT:=cl prog gS [(pv a0),(.int .i64 a1),(.int .i64 a2),(.agg (ah.C a3).toArray)] aC fun r16=>br (!r16) ( K ((⟨0,0⟩:ab),false)) ( cl prog fS [(pv a0),(.int .i64 8),(.int .i64 1000)] aC fun r20=>br (!r20) ( K ((⟨0,0⟩:ab),false)) ( cl prog fy [(pv a0)] eF fun r24=>Lp (gH a1 K r24) ((i64.wrap ((r24.len:Int) - 1)),(⟨0,0⟩:ab))))
theorem sim_messuagelaw16_Run (a0:Ptr) (a1:Int) (a2:Int) (a3:ah) {K:kT (ab × Bool)} {h:Hp} (H:rJ a0 a1 a2 a3 K h):cl prog ci [(pv a0),(.int .i64 a1),(.int .i64 a2),(.agg (ah.C a3).toArray)] bb K h:=z_i func16 p p fun _=>O<|aa<|cX (l:=ah.C a3) p p p fun b7=>aa<|aI (l:=ab.C (⟨0,0⟩:ab)) cY p p fun b8=>U p<|am<|O<|M p<|M p<|M p<|bn (bH (k:=1) fI p p p p) p<|aa<|D H en_17 fun r16 _ H1=>J (cy p)<|ad<|aw p H1 (fun k2 H3=>O<|J (aZ (vs:=[]) p rT)<|aa<|aP (k:=0) (vs:=ab.C (⟨0,0⟩:ab)) bL p p p p p p p<|U p<|aj<|bB (bR p (bG (k:=0) p cM p p)<|cd p) ⟨((⟨0,0⟩:ab),false),p,H3⟩) fun k2 H3=>an<|am<|O<|M p<|aa<|D H3 en_21 fun r20 _ H4=>J (cy p)<|ad<|aw p H4 (fun k5 H6=>O<|J (aZ (vs:=[]) p rT)<|aa<|aP (k:=0) (vs:=ab.C (⟨0,0⟩:ab)) bL p p p p p p p<|U p<|aj<|bB (bR p (bG (k:=0) p cM p p)<|cd p) ⟨((⟨0,0⟩:ab),false),p,H6⟩) fun k5 H6=>an<|O<|M p<|aa<|D H6 en_23 fun r24 _ H7=>U p<|am<|O<|M p<|J (dK p underlying22 p)<|J (ia p p)<|U p<|ax<|bv (step:=gH a1 K r24) (fun s8=>[(1,(.int .i64 a1)),(8,(.pointer (some ⟨b8,0,none⟩))),(10,(sv r24)),(11,(.int .i64 s8.1))]) (fun s8=>[bx b8 36 (ab.C s8.2)]) H7 (.cons p<|.cons p<|.cons p<|.cons p<|.nil _) (.cons_cons _<|.cons _ .slnil) fun Rec9 s8 _ H10=>am<|O<|M p<|J (kx p p)<|ad<|aw p H10 (fun k11 H12=>an<|am<|ax<|O<|M p<|M p<|cz H12 fun q34 e13 h14 H15=>J (bf rY (aJ p<|aX e13) p h14)<|J (ae uy p)<|aa<|aW H15 bc p (fun _=>p) p fun x36 H16=>M p<|J (bP p p)<|ad<|aw p H16 (fun k17 H18=>am<|bo (n:=13) [] cu p (.cons _ .slnil)<|V 0 p (ai p)<|V 1 p (ai p)<|V 2 p (bf rY (aJ p<|aX e13) p h14)<|V 3 p (ae jD p)<|V 5 p (ai p)<|V 6 p (ai p)<|V 7 p (bf rY (aJ p<|aX e13) p h14)<|V 8 p (ae rQ p)<|kq H18 fun H19_1 H19_2=>kr (i:=4) (j:=9) (by kernel_rfl) (cR p p<|hG H19_1 cM p (fun _=>p) p fun x43 H20=>⟨.cons _ .slnil,kr (i:=9) (j:=11) (by kernel_rfl) (cR p p<|aW H20 bc p (fun _=>p) p fun x48 H22=>⟨.cons _ .slnil,V 10 p (pb p p)<|I 11 p<|aP (k:=0) (vs:=ab.C x43) bL p p p p p p p ⟨.cons _ .slnil,V 12 p (av p)<|aR (by kernel_rfl)<|aj<|bB (bR p (bG (k:=0) p cM p p)<|cd p) ⟨(x43,(decide (x48 > 0))),p,H22⟩⟩⟩)<|cR p p<|aP (k:=0) (vs:=ab.C x43) bL p p p p p p p ⟨.cons _ .slnil,bz (i:=9) (fun _ _ _ _ hh=>hh) H20 p (by kernel_rfl) bc p (fun _=>p) p fun x48 H22=>V 10 p (pb p p)<|V 12 p (av p)<|aR (by kernel_rfl)<|aj<|bB (bR p (bG (k:=0) p cM p p)<|cd p) ⟨(x43,(decide (x48 > 0))),p,H22⟩⟩⟩)<|cR p p<|aW H19_2 bc p (fun _=>p) p fun x48 H20=>⟨.cons _ .slnil,V 10 p (pb p p)<|yu (i:=4) (fun _ _ _ _ hh=>hh) H20 p (by kernel_rfl) cM p (fun _=>p) p fun x43 H21=>I 11 p<|aP (k:=0) (vs:=ab.C x43) bL p p p p p p p ⟨.cons _ .slnil,V 12 p (av p)<|aR (by kernel_rfl)<|aj<|bB (bR p (bG (k:=0) p cM p p)<|cd p) ⟨(x43,(decide (x48 > 0))),p,H21⟩⟩⟩) fun k17 H18=>an<|aq<|M p<|J (ia p p)<|U p<|cF ((i64.wrap (s8.1 - 1)),s8.2) H18 (.cons p<|.cons p<|.cons p<|.cons p<|.nil _)<|.cons_cons _ .slnil) fun k11 H12=>bh<|O<|J (aZ (vs:=[]) p rT)<|aa<|aP (k:=0) (vs:=ab.C (⟨0,0⟩:ab)) bL p p p p p p p<|U p<|aj<|bB (bR p (bG (k:=0) p cM p p)<|cd p) ⟨((⟨0,0⟩:ab),false),p,H12⟩
def pz (K:kT Bool):hT:=cl prog yi [(.agg (aE.C (⟨2,2,3⟩:aE)).toArray)] kV fun r21=>br r21.isNone ( K false) ( cl prog ci [(pv r21),(.int .i64 0),(.int .i64 0),(.agg (ah.C (⟨1,1,0,0,0⟩:ah)).toArray)] bb fun r27=>cl prog ci [(pv r21),(.int .i64 0),(.int .i64 0),(.agg (ah.C (⟨6,4,1,3,0⟩:ah)).toArray)] bb fun r33=>cl prog ci [(pv r21),(.int .i64 1),(.int .i64 0),(.agg (ah.C (⟨21,4,2,9,0⟩:ah)).toArray)] bb fun r39=>cl prog ci [(pv r21),(.int .i64 0),(.int .i64 0),(.agg (ah.C (⟨20,4,2,0,0⟩:ah)).toArray)] bb fun r45=>cl prog ci [(pv r21),(.int .i64 0),(.int .i64 0),(.agg (ah.C (⟨7,4,0,0,0⟩:ah)).toArray)] bb fun r51=>cl prog fy [(pv r21)] eF fun r55=>cl prog pR [(sv r55),(.agg (aE.C (⟨2,2,3⟩:aE)).toArray)] bQ fun r59=>cl prog pS [(sv r55),(.agg (aE.C (⟨2,2,3⟩:aE)).toArray)] bQ fun r65=>cl prog wo [(.int .i64 2),(.int .i64 3)] oZ fun r68=>cl prog lD [] aC fun r69=>br (((((((((((((((r69 && r27.2) && r33.2) && r39.2) && r45.2) && r51.2) && (r27.1.fRa == 0)) && (r33.1.fRa == 0)) && (r39.1.fRa == 0)) && (r45.1.fVal == 9)) && (r51.1.fRa == 0)) && ((r55.len:Int) == 5)) && (r59.1 == (-1))) && r59.2) && (r65.1 == (-1))) && r65.2) ( cl prog yj [(sv r55),(.agg (aE.C (⟨2,2,3⟩:aE)).toArray)] aC fun r132=>br r132 ( cl prog mZ [(sv r55)] cJ fun r136=>br (((r136.len:Int) == 5) && ((r68.len:Int) == 12)) ( cl prog n_fair_Fair [(sv r68),(.int .i64 2),(.int .i64 5)] aC fun r147=>br r147 ( cl prog n_twin_View [(sv r55),(.int .i64 0)] nP fun r151=>br ((r151.len:Int) == 5) ( cl prog rm [(sv r55),(.agg (aE.C (⟨2,2,3⟩:aE)).toArray)] aC fun r158=>K r158) ( K false)) ( K false)) ( K false)) ( K false)) ( K false))
theorem wG {K:kT Bool} {h:Hp} (H:pz K h):cl prog lB [] aC K h:=z_i func5 p p fun _=>O<|U p<|O<|J (aZ p<|uF 2 2 3)<|aa<|aI (l:=aE.C (⟨0,0,0⟩:aE)) zero_24 p p fun b1=>aa<|aP (k:=0) (vs:=aE.C (⟨2,2,3⟩:aE)) inf_24 p p p p p p p<|ad<|O<|bn (bH (k:=0) qe p p p p) p<|aa<|D H en_25 fun r21 _ H1=>U p<|am<|O<|M p<|J (cD underlying43 p)<|ad<|aw p H1 (fun k2 H3=>O<|U p<|aj<|Z ⟨false,p,H3⟩) fun k2 H3=>an<|O<|M p<|J (aZ p<|gB 1 1)<|aa<|D H3 en_16 fun r27 _ H4=>M p<|J (ak p p)<|J (ak p p)<|aa<|aI (l:=ab.C (⟨0,0⟩:ab)) cY p p fun b3=>aa<|aP (k:=0) (vs:=ab.C r27.1) bL p p p p p p p<|U p<|O<|M p<|J (aZ p<|eU 6 4 1 3)<|aa<|D H4 en_16 fun r33 _ H5=>M p<|J (ak p p)<|J (ak p p)<|aa<|aI (l:=ab.C (⟨0,0⟩:ab)) cY p p fun b5=>aa<|aP (k:=0) (vs:=ab.C r33.1) bL p p p p p p p<|U p<|O<|M p<|J (aZ p<|eU 21 4 2 9)<|aa<|D H5 en_16 fun r39 _ H6=>M p<|J (ak p p)<|J (ak p p)<|aa<|aI (l:=ab.C (⟨0,0⟩:ab)) cY p p fun b7=>aa<|aP (k:=0) (vs:=ab.C r39.1) bL p p p p p p p<|U p<|O<|M p<|J (aZ p<|iX 20 4 2)<|aa<|D H6 en_16 fun r45 _ H7=>M p<|J (ak p p)<|J (ak p p)<|aa<|aI (l:=ab.C (⟨0,0⟩:ab)) cY p p fun b9=>aa<|aP (k:=0) (vs:=ab.C r45.1) bL p p p p p p p<|U p<|O<|M p<|J (aZ p<|gB 7 4)<|aa<|D H7 en_16 fun r51 _ H8=>M p<|J (ak p p)<|J (ak p p)<|aa<|aI (l:=ab.C (⟨0,0⟩:ab)) cY p p fun b11=>aa<|aP (k:=0) (vs:=ab.C r51.1) bL p p p p p p p<|U p<|O<|M p<|aa<|D H8 en_23 fun r55 _ H9=>U p<|O<|M p<|bn (bH (k:=5) qe p p p p) p<|aa<|D H9 en_26 fun r59 _ H10=>M p<|J (ak p p)<|J (ak p p)<|J (av p)<|U p<|O<|M p<|bn (bH (k:=5) qe p p p p) p<|aa<|D H10 en_27 fun r65 _ H11=>M p<|J (ak p p)<|J (ak p p)<|J (av p)<|U p<|O<|aa<|D H11 en_28 fun r68 _ H12=>U p<|O<|aa<|D H12 en_29 fun r69 _ H13=>M p<|W p p (ay _) (fun g14=>wv<|ai p)<|J (bO p p)<|M p<|W p p (ay _) (fun g15=>wv<|ai p)<|J (bO p p)<|M p<|W p p (ay _) (fun g16=>wv<|ai p)<|J (bO p p)<|M p<|W p p (ay _) (fun g17=>wv<|ai p)<|J (bO p p)<|M p<|W p p (ay _) (fun g18=>wv<|ai p)<|J (bO p p)<|M p<|W p p (ay _) (fun g19=>wv<|ae gL p)<|W p p (ay _) (fun g20=>cv<|be (k:=4) lO (aD p g20) p p)<|W p p (ay _) (fun g21=>wv<|bP (aD p g21) p)<|J (bO p p)<|M p<|W p p (ay _) (fun g22=>wv<|ae gL p)<|W p p (ay _) (fun g23=>cv<|be (k:=3) lO (aD p g23) p p)<|W p p (ay _) (fun g24=>wv<|bP (aD p g24) p)<|J (bO p p)<|M p<|W p p (ay _) (fun g25=>wv<|ae gL p)<|W p p (ay _) (fun g26=>cv<|be (k:=2) lO (aD p g26) p p)<|W p p (ay _) (fun g27=>wv<|bP (aD p g27) p)<|J (bO p p)<|M p<|W p p (ay _) (fun g28=>wv<|ae fld_36_1 p)<|W p p (ay _) (fun g29=>cv<|be (k:=1) cG (aD p g29) p p)<|W p p (ay _) (fun g30=>wv<|bP (aD p g30) p)<|J (bO p p)<|M p<|W p p (ay _) (fun g31=>wv<|ae gL p)<|W p p (ay _) (fun g32=>cv<|be (k:=0) lO (aD p g32) p p)<|W p p (ay _) (fun g33=>wv<|bP (aD p g33) p)<|J (bO p p)<|M p<|W p p (ay _) (fun g34=>wv<|ai p)<|W p p (ay _) (fun g35=>wv<|dK p underlying22<|aD p g35)<|W p p (ay _) (fun g36=>wv<|bP (aD p g36) p)<|J (bO p p)<|M p<|W p p (ay _) (fun g37=>wv<|ai p)<|W p p (ay _) (fun g38=>wv<|bP (aD p g38) p)<|J (bO p p)<|M p<|W p p (ay _) (fun g39=>wv<|ai p)<|J (bO p p)<|M p<|W p p (ay _) (fun g40=>wv<|ai p)<|W p p (ay _) (fun g41=>wv<|bP (aD p g41) p)<|J (bO p p)<|M p<|W p p (ay _) (fun g42=>wv<|ai p)<|J (bO p p)<|M p<|W p p (ay _) (fun g43=>wv<|ai p)<|W p p (ay _) (fun g44=>cv<|bH (k:=5) qe p p p p)<|bW H13 (fun k46 H47=>G (F k46)<|gQ H47 en_6 (aV (aD p k46)<|aV (aD p k46) bU) p fun r132 _ H48=>J (aU p k46 p)<|M p<|W p p (ay _) (fun g49=>wv<|ai p)<|bW H48 (fun k51 H52=>G (F k51)<|gQ H52 en_13 (aV (aD p k51) bU) p fun r136 _ H53=>G (F k51)<|z_p (dK p underlying27 p)<|G (F k51)<|z_p (bP p p)<|J (aU p k51 p)<|M p<|W p p (ay _) (fun g54=>wv<|ai p)<|W p p (ay _) (fun g55=>wv<|dK p underlying59<|aD p g55)<|W p p (ay _) (fun g56=>wv<|bP (aD p g56) p)<|J (bO p p)<|M p<|W p p (ay _) (fun g57=>wv<|ai p)<|bW H53 (fun k59 H60=>G (F k59)<|gQ H60 en_30 (aV (aD p k59)<|aV p<|aV p bU) p fun r147 _ H61=>J (aU p k59 p)<|M p<|W p p (ay _) (fun g62=>wv<|ai p)<|bW H61 (fun k64 H65=>G (F k64)<|gQ H65 en_31 (aV (aD p k64)<|aV p bU) p fun r151 _ H66=>G (F k64)<|z_p (dK p underlying62 p)<|G (F k64)<|z_p (bP p p)<|J (aU p k64 p)<|M p<|W p p (ay _) (fun g67=>wv<|ai p)<|W p p (ay _) (fun g68=>cv<|bH (k:=5) qe p p p p)<|bW H66 (fun k70 H71=>G (F k70)<|gQ H71 en_24 (aV (aD p k70)<|aV (aD p k70) bU) p fun r158 _ H72=>J (aU p k70 p)<|U p<|aj<|Z ⟨r158,p,H72⟩) fun k70 H71=>Y (aS k70)<|J (au p k70 p)<|U p<|aj<|Z ⟨false,p,H71⟩) fun k64 H65=>Y (aS k64)<|Y (aS k64)<|Y (aS k64)<|J (au p k64 p)<|M p<|Y p<|Y p<|Y p<|J (au p p p)<|U p<|aj<|Z ⟨false,p,H65⟩) fun k59 H60=>Y (aS k59)<|J (au p k59 p)<|M p<|Y p<|Y p<|Y p<|Y p<|J (au p p p)<|M p<|Y p<|Y p<|Y p<|J (au p p p)<|U p<|aj<|Z ⟨false,p,H60⟩) fun k51 H52=>Y (aS k51)<|Y (aS k51)<|Y (aS k51)<|J (au p k51 p)<|M p<|Y p<|Y p<|Y p<|J (au p p p)<|M p<|Y p<|Y p<|J (au p p p)<|M p<|Y p<|Y p<|Y p<|Y p<|J (au p p p)<|M p<|Y p<|Y p<|Y p<|J (au p p p)<|U p<|aj<|Z ⟨false,p,H52⟩) fun k46 H47=>Y (aS k46)<|J (au p k46 p)<|M p<|Y p<|Y p<|Y p<|Y p<|J (au p p p)<|M p<|Y p<|Y p<|Y p<|J (au p p p)<|M p<|Y p<|Y p<|J (au p p p)<|M p<|Y p<|Y p<|Y p<|Y p<|J (au p p p)<|M p<|Y p<|Y p<|Y p<|J (au p p p)<|U p<|aj<|Z ⟨false,p,H47⟩
def kl (K:kT Ptr) (r11:Ptr) (v18:Sl) (Rec6:kT Int) (s5:Int):hT:=br (decide (s5 < (v18.len:Int))) ( ix v18 s5 fun q22=>ld (q22.1,q22.2 + Int.toNat s5 * 5) ah.C fun x23=>cl prog ci [(pv r11),(.int .i64 0),(.int .i64 0),(.agg (ah.C x23).toArray)] bb fun r27=>br ((!r27.2) || (r27.1.fRa != 0)) ( K none) ( Rec6 (i64.wrap (s5 + 1)))) ( K r11)
def oI (a0:aE) (a1:Int) (K:kT Ptr):hT:=cl prog yi [(.agg (aE.C a0).toArray)] kV fun r11=>br r11.isNone ( K none) ( hpv prog (Instr.buildSlice t_Sapi_Call 3 #[(0,(.agg (ah.C (⟨1,0,0,0,0⟩:ah)).toArray)),(1,(.agg (ah.C (⟨6,0,0,3,0⟩:ah)).toArray)),(2,(.agg (ah.C (⟨21,0,0,a1,0⟩:ah)).toArray))]) R_Sapi_Call fun (v18:Sl)=>Lp (kl K r11 v18) 0)
theorem wg (a0:aE) (a1:Int) {K:kT Ptr} {h:Hp} (H:oI a0 a1 K h):cl prog kO [(.agg (aE.C a0).toArray),(.int .u64 a1)] kV K h:=z_i func15 p p fun _=>O<|aa<|cX (l:=aE.C a0) p p p fun b2=>U p<|O<|bn (bH (k:=0) qe p p p p) p<|aa<|D H en_25 fun r11 _ H1=>U p<|am<|O<|M p<|J (cD underlying43 p)<|ad<|aw p H1 (fun k2 H3=>O<|U p<|aj<|Z ⟨none,p,H3⟩) fun k2 H3=>an<|am<|O<|J (aZ p<|gB 1 0)<|J (aZ p<|eU 6 0 0 3)<|M p<|J (aZ p<|eU 21 0 0 a1)<|aa<|aT H3 (bw (vs:=[(.agg (ah.C (⟨1,0,0,0,0⟩:ah)).toArray),(.agg (ah.C (⟨6,0,0,3,0⟩:ah)).toArray),(.agg (ah.C (⟨21,0,0,a1,0⟩:ah)).toArray)]) p) p fun v18 _ H4=>J (dK p underlying71 p)<|M p<|ad<|ax<|bv (step:=kl K r11 v18) (fun s5=>[(5,(pv r11)),(18,(sv v18)),(19,(.int .i64 (v18.len:Int))),(20,(.int .i64 s5))]) (fun s5=>[]) H4 (.cons p<|.cons p<|.cons p<|.cons p<|.nil _) (.cons _ .slnil) fun Rec6 s5 _ H7=>O<|J (cn p p)<|ad<|am<|aw p H7 (fun k8 H9=>an<|am<|ax<|O<|cz H9 fun q22 e10 h11 H12=>J (bf slc_71 (aJ p<|aX e10) p h11)<|aa<|hG H12 fI p (fun _=>p) p fun x23 H13=>aa<|aI (l:=ah.C (⟨0,0,0,0,0⟩:ah)) zero_33 p p fun b7=>aa<|aP (k:=0) (vs:=ah.C x23) inf_33 p p p p p p p<|ad<|O<|M p<|bn (bH (k:=0) fI p p p p) p<|aa<|D H13 en_16 fun r27 _ H14=>M p<|J (ak p p)<|J (ak p p)<|aa<|aI (l:=ab.C (⟨0,0⟩:ab)) cY p p fun b8=>aa<|aP (k:=0) (vs:=ab.C r27.1) bL p p p p p p p<|U p<|O<|M p<|J (cy p)<|M p<|W p p (aN _) (fun g15=>wv<|ae gL p)<|W p p (aN _) (fun g16=>cv<|be (k:=0) lO (aD p g16) p p)<|W p p (aN _) (fun g17=>wv<|nY (aD p g17) p)<|J (dC p p)<|ad<|aw p H14 (fun k18 H19=>O<|U p<|aj<|Z ⟨none,p,H19⟩) fun k18 H19=>an<|aq<|J (bk p p)<|M p<|ad<|cF (i64.wrap (s5 + 1)) H19 (.cons p<|.cons p<|.cons p<|.cons p<|.nil _)<|.cons _<|.cons _ .slnil) fun k8 H9=>bh<|O<|M p<|U p<|aj<|Z ⟨r11,p,H9⟩
def iu (a0:Int) (a1:Int) (K:kT Bool) (r45:Ptr) (r149:ab × Bool) (r155:ab × Bool) (r182:Sl) (Rec66:kT Int) (s65:Int):hT:=br (decide (s65 < (r182.len:Int))) ( ix r182 s65 fun q186=>ld (q186.1,q186.2 + Int.toNat s65 * 16) aG.C fun x187=>br ((((x187.fCa == 0) && (x187.fIa.e0 == 20)) && (x187.fYa.fRa == 0)) && (x187.fYa.fVal != (ior .u64 a1 1))) ( K false) ( Rec66 (i64.wrap (s65 + 1)))) ( br (r149.1.fRa == 0) ( br (ab.eqb r155.1 (⟨0,0⟩:ab)) ( cl prog fy [(pv r45)] eF fun r221=>cl prog rm [(sv r221),(.agg (aE.C (⟨(i64.wrap (2 + ((i64.wrap ((a0.tmod 3) + 3)).tmod 3))),2,1⟩:aE)).toArray)] aC fun r223=>K r223) ( K false)) ( K false))
def iv (a0:Int) (a1:Int) (K:kT Bool) (r45:Ptr) (r149:ab × Bool) (r155:ab × Bool) (Rec54:kT Int) (s53:Int):hT:=br (decide (s53 < (i64.wrap (2 + ((i64.wrap ((a0.tmod 3) + 3)).tmod 3))))) ( cl prog ci [(pv r45),(.int .i64 s53),(.int .i64 0),(.agg (ah.C (⟨20,0,0,0,0⟩:ah)).toArray)] bb fun r171=>br ((!r171.2) || (r171.1.fRa != 7)) ( K false) ( Rec54 (i64.wrap (s53 + 1)))) ( cl prog fy [(pv r45)] eF fun r182=>Lp (iu a0 a1 K r45 r149 r155 r182) 0)
def eD (a0:Int) (a1:Int) (a2:Int) (K:kT Bool) (r45:Ptr) (s48:Unit):hT:=cl prog ci [(pv r45),(.int .i64 1),(.int .i64 1),(.agg (ah.C (⟨6,7,2,3,0⟩:ah)).toArray)] bb fun r149=>cl prog ci [(pv r45),(.int .i64 1),(.int .i64 1),(.agg (ah.C (⟨20,7,0,0,0⟩:ah)).toArray)] bb fun r155=>cl prog ci [(pv r45),(.int .i64 1),(.int .i64 1),(.agg (ah.C (⟨21,7,0,(ior .u64 a2 2),0⟩:ah)).toArray)] bb fun r161=>Lp (iv a0 a1 K r45 r149 r155) 0
def fK (a0:Int) (a1:Int) (a2:Int) (a3:Sl) (K:kT Bool) (r45:Ptr) (Rec17:kT (Bool × Int)) (s16:Bool × Int):hT:=br ((decide (s16.2 < (a3.len:Int))) && (decide (s16.2 < 100))) ( ix a3 s16.2 fun q73=>ld (q73.1,q73.2 + Int.toNat s16.2 * 1) (cI .i64) fun x74=>gd ((i64.wrap ((i64.wrap (2 + ((i64.wrap ((a0.tmod 3) + 3)).tmod 3))) - 1)) ≠ 0)<|ld (q73.1,q73.2 + Int.toNat s16.2 * 1) (cI .i64) fun x93=>br ((iand .i64 x93 24) == 24) ( cl prog mY [(pv r45),(.int .i64 (i64.wrap (1 + ((i64.wrap ((i64.wrap ((x74.tmod (i64.wrap ((i64.wrap (2 + ((i64.wrap ((a0.tmod 3) + 3)).tmod 3))) - 1))) + (i64.wrap (2 + ((i64.wrap ((a0.tmod 3) + 3)).tmod 3))))) - 1)).tmod (i64.wrap ((i64.wrap (2 + ((i64.wrap ((a0.tmod 3) + 3)).tmod 3))) - 1))))))] aC fun r98=>Rec17 (s16.1,(i64.wrap (s16.2 + 1)))) ( ld (q73.1,q73.2 + Int.toNat s16.2 * 1) (cI .i64) fun x103=>br ((iand .i64 x103 24) == 16) ( cl prog kh [(pv r45),(.int .i64 0)] aC fun r107=>Rec17 (s16.1,(i64.wrap (s16.2 + 1)))) ( cl prog fE [(pv r45),(.int .i64 (i64.wrap (1 + ((i64.wrap ((i64.wrap ((x74.tmod (i64.wrap ((i64.wrap (2 + ((i64.wrap ((a0.tmod 3) + 3)).tmod 3))) - 1))) + (i64.wrap (2 + ((i64.wrap ((a0.tmod 3) + 3)).tmod 3))))) - 1)).tmod (i64.wrap ((i64.wrap (2 + ((i64.wrap ((a0.tmod 3) + 3)).tmod 3))) - 1))))))] aC fun r111=>br r111 ( cl prog kh [(pv r45),(.int .i64 (i64.wrap (1 + ((i64.wrap ((i64.wrap ((x74.tmod (i64.wrap ((i64.wrap (2 + ((i64.wrap ((a0.tmod 3) + 3)).tmod 3))) - 1))) + (i64.wrap (2 + ((i64.wrap ((a0.tmod 3) + 3)).tmod 3))))) - 1)).tmod (i64.wrap ((i64.wrap (2 + ((i64.wrap ((a0.tmod 3) + 3)).tmod 3))) - 1))))))] aC fun r114=>Rec17 (s16.1,(i64.wrap (s16.2 + 1)))) ( br (!s16.1) ( cl prog gS [(pv r45),(.int .i64 (i64.wrap (1 + ((i64.wrap ((i64.wrap ((x74.tmod (i64.wrap ((i64.wrap (2 + ((i64.wrap ((a0.tmod 3) + 3)).tmod 3))) - 1))) + (i64.wrap (2 + ((i64.wrap ((a0.tmod 3) + 3)).tmod 3))))) - 1)).tmod (i64.wrap ((i64.wrap (2 + ((i64.wrap ((a0.tmod 3) + 3)).tmod 3))) - 1)))))),(.int .i64 1),(.agg (ah.C (⟨1,2,0,0,0⟩:ah)).toArray)] aC fun r121=>Rec17 (r121,(i64.wrap (s16.2 + 1)))) ( cl prog gS [(pv r45),(.int .i64 (i64.wrap (1 + ((i64.wrap ((i64.wrap ((x74.tmod (i64.wrap ((i64.wrap (2 + ((i64.wrap ((a0.tmod 3) + 3)).tmod 3))) - 1))) + (i64.wrap (2 + ((i64.wrap ((a0.tmod 3) + 3)).tmod 3))))) - 1)).tmod (i64.wrap ((i64.wrap (2 + ((i64.wrap ((a0.tmod 3) + 3)).tmod 3))) - 1)))))),(.int .i64 0),(.agg (ah.C (⟨20,0,0,0,0⟩:ah)).toArray)] aC fun r88=>Rec17 (s16.1,(i64.wrap (s16.2 + 1)))))))) ( cl prog fS [(pv r45),(.int .i64 (i64.wrap (2 + ((i64.wrap ((a0.tmod 3) + 3)).tmod 3)))),(.int .i64 1000)] aC fun r124=>br (!r124) ( K false) ( cl prog sj [(pv r45),(.int .i64 1),(.int .i64 2)] cC fun r128=>br (!r128.2) ( cl prog ci [(pv r45),(.int .i64 1),(.int .i64 1),(.agg (ah.C (⟨1,2,0,0,0⟩:ah)).toArray)] bb fun r136=>br ((!r136.2) || (r136.1.fRa != 0)) ( K false) ( eD a0 a1 a2 K r45 ())) ( eD a0 a1 a2 K r45 ())))
def iw (a0:Int) (a1:Int) (a2:Int) (a3:Sl) (K:kT Bool) (r45:Ptr) (Rec8:kT Int) (s7:Int):hT:=br (decide (s7 < (i64.wrap (2 + ((i64.wrap ((a0.tmod 3) + 3)).tmod 3))))) ( cl prog ci [(pv r45),(.int .i64 s7),(.int .i64 0),(.agg (ah.C (⟨20,0,0,0,0⟩:ah)).toArray)] bb fun r56=>Rec8 (i64.wrap (s7 + 1))) ( cl prog gS [(pv r45),(.int .i64 0),(.int .i64 0),(.agg (ah.C (⟨5,0,0,0,0⟩:ah)).toArray)] aC fun r59=>br (!r59) ( K false) ( Lp (fK a0 a1 a2 a3 K r45) (false,0)))
def lN (a0:Int) (a1:Int) (a2:Int) (a3:Sl) (K:kT Bool):hT:=cl prog lB [] aC fun r29=>br (!r29) ( K false) ( cl prog kO [(.agg (aE.C (⟨(i64.wrap (2 + ((i64.wrap ((a0.tmod 3) + 3)).tmod 3))),2,1⟩:aE)).toArray),(.int .u64 (ior .u64 a1 1))] kV fun r45=>br r45.isNone ( K false) ( Lp (iw a0 a1 a2 a3 K r45) 0))
theorem sc (a0:Int) (a1:Int) (a2:Int) (a3:Sl) {K:kT Bool} {h:Hp} (H:lN a0 a1 a2 a3 K h):cl prog mq [(.int .i64 a0),(.int .u64 a1),(.int .u64 a2),(sv a3)] aC K h:=z_i func4 p p fun _=>O<|U p<|O<|aa<|D H en_5 fun r29 _ H1=>U p<|am<|O<|M p<|J (cy p)<|ad<|aw p H1 (fun k2 H3=>O<|U p<|aj<|Z ⟨false,p,H3⟩) fun k2 H3=>an<|O<|M p<|J (v_rem p p (by decide))<|J (bk p p)<|J (v_rem p p (by decide))<|J (bk p p)<|U p<|O<|M p<|J (aZ p<|uF (i64.wrap (2 + ((i64.wrap ((a0.tmod 3) + 3)).tmod 3))) 2 1)<|aa<|aI (l:=aE.C (⟨0,0,0⟩:aE)) zero_24 p p fun b10=>aa<|aP (k:=0) (vs:=aE.C (⟨(i64.wrap (2 + ((i64.wrap ((a0.tmod 3) + 3)).tmod 3))),2,1⟩:aE)) inf_24 p p p p p p p<|ad<|O<|M p<|J (v_ior p p)<|M p<|J (v_ior p p)<|J (av p)<|U p<|O<|bn (bH (k:=0) qe p p p p) p<|M p<|aa<|D H3 en_15 fun r45 _ H4=>U p<|am<|O<|M p<|J (cD underlying43 p)<|ad<|aw p H4 (fun k5 H6=>O<|U p<|aj<|Z ⟨false,p,H6⟩) fun k5 H6=>an<|am<|O<|U p<|ax<|bv (step:=iw a0 a1 a2 a3 K r45) (fun s7=>[(0,(.int .i64 (i64.wrap (2 + ((i64.wrap ((a0.tmod 3) + 3)).tmod 3))))),(1,(.int .u64 (ior .u64 a1 1))),(2,(.int .u64 (ior .u64 a2 2))),(3,(sv a3)),(10,(.pointer (some ⟨b10,0,none⟩))),(11,(pv r45)),(12,(.int .i64 s7))]) (fun s7=>[bx b10 24 (aE.C (⟨(i64.wrap (2 + ((i64.wrap ((a0.tmod 3) + 3)).tmod 3))),2,1⟩:aE))]) H6 (.cons p<|.cons p<|.cons p<|.cons p<|.cons p<|.cons p<|.cons p<|.nil _) (.cons_cons _ .slnil) fun Rec8 s7 _ H9=>am<|O<|M p<|M p<|J (cn p p)<|ad<|aw p H9 (fun k10 H11=>an<|am<|ax<|aq<|M p<|M p<|J (aZ p<|iX 20 0 0)<|aa<|D H11 en_16 fun r56 _ H12=>ad<|aq<|M p<|J (bk p p)<|U p<|cF (i64.wrap (s7 + 1)) H12 (.cons p<|.cons p<|.cons p<|.cons p<|.cons p<|.cons p<|.cons p<|.nil _)<|.cons_cons _ .slnil) fun k10 H11=>bh<|am<|O<|M p<|J (aZ p<|gB 5 0)<|aa<|D H11 en_17 fun r59 _ H13=>J (cy p)<|ad<|aw p H13 (fun k14 H15=>O<|U p<|aj<|Z ⟨false,p,H15⟩) fun k14 H15=>an<|O<|U p<|am<|O<|U p<|ax<|bv (step:=fK a0 a1 a2 a3 K r45) (fun s16=>[(0,(.int .i64 (i64.wrap (2 + ((i64.wrap ((a0.tmod 3) + 3)).tmod 3))))),(1,(.int .u64 (ior .u64 a1 1))),(2,(.int .u64 (ior .u64 a2 2))),(3,(sv a3)),(10,(.pointer (some ⟨b10,0,none⟩))),(11,(pv r45)),(13,(.bool s16.1)),(14,(.int .i64 s16.2))]) (fun s16=>[bx b10 24 (aE.C (⟨(i64.wrap (2 + ((i64.wrap ((a0.tmod 3) + 3)).tmod 3))),2,1⟩:aE))]) H15 (.cons p<|.cons p<|.cons p<|.cons p<|.cons p<|.cons p<|.cons p<|.cons p<|.nil _) (.cons_cons _ .slnil) fun Rec17 s16 _ H18=>am<|O<|M p<|M p<|J (dK p underlying27 p)<|J (cn p p)<|M p<|W p p (ay _) (fun g19=>wv<|ai p)<|W p p (ay _) (fun g20=>wv<|cn (aD p g20) p)<|J (bO p p)<|ad<|aw p H18 (fun k21 H22=>an<|am<|ax<|O<|M p<|M p<|cz H22 fun q73 e23 h24 H25=>J (bf dA (aJ p<|aX e23) p h24)<|aa<|aW H25 bc p (fun _=>p) p fun x74 H26=>M p<|J (ia p p)<|ji H26 fun z27 H28=>J (v_rem p p z27)<|M p<|J (bk p p)<|J (ia p p)<|M p<|J (ia p p)<|J (v_rem p p z27)<|J (bk p p)<|U p<|ax<|O<|M p<|M p<|J (bf dA (aJ p<|aX e23) p h24)<|aa<|aW H28 bc p (fun _=>p) p fun x93 H29=>J (v_iand p p)<|J (bP p p)<|U p<|aw p H29 (fun k30 H31=>aq<|M p<|M p<|aa<|D H31 en_18 fun r98 _ H32=>ad<|aq<|M p<|J (bk p p)<|U p<|cF (s16.1,(i64.wrap (s16.2 + 1))) H32 (.cons p<|.cons p<|.cons p<|.cons p<|.cons p<|.cons p<|.cons p<|.cons p<|.nil _)<|.cons_cons _ .slnil) fun k30 H31=>O<|M p<|M p<|J (bf dA (aJ p<|aX e23) p h24)<|aa<|aW H31 bc p (fun _=>p) p fun x103 H33=>J (v_iand p p)<|J (bP p p)<|U p<|aw p H33 (fun k34 H35=>aq<|M p<|aa<|D H35 en_19 fun r107 _ H36=>ad<|aq<|M p<|J (bk p p)<|U p<|cF (s16.1,(i64.wrap (s16.2 + 1))) H36 (.cons p<|.cons p<|.cons p<|.cons p<|.cons p<|.cons p<|.cons p<|.cons p<|.nil _)<|.cons_cons _ .slnil) fun k34 H35=>O<|M p<|M p<|aa<|D H35 en_20 fun r111 _ H37=>U p<|aw p H37 (fun k38 H39=>aq<|M p<|M p<|aa<|D H39 en_19 fun r114 _ H40=>ad<|aq<|M p<|J (bk p p)<|U p<|cF (s16.1,(i64.wrap (s16.2 + 1))) H40 (.cons p<|.cons p<|.cons p<|.cons p<|.cons p<|.cons p<|.cons p<|.cons p<|.nil _)<|.cons_cons _ .slnil) fun k38 H39=>O<|M p<|J (cy p)<|U p<|aw p H39 (fun k41 H42=>aq<|M p<|M p<|J (aZ p<|gB 1 2)<|aa<|D H42 en_17 fun r121 _ H43=>U p<|aq<|M p<|J (bk p p)<|U p<|cF (r121,(i64.wrap (s16.2 + 1))) H43 (.cons p<|.cons p<|.cons p<|.cons p<|.cons p<|.cons p<|.cons p<|.cons p<|.nil _)<|.cons_cons _ .slnil) fun k41 H42=>aq<|M p<|M p<|J (aZ p<|iX 20 0 0)<|aa<|D H42 en_17 fun r88 _ H44=>ad<|aq<|M p<|J (bk p p)<|U p<|cF (s16.1,(i64.wrap (s16.2 + 1))) H44 (.cons p<|.cons p<|.cons p<|.cons p<|.cons p<|.cons p<|.cons p<|.cons p<|.nil _)<|.cons_cons _ .slnil) fun k21 H22=>bh<|am<|O<|M p<|M p<|aa<|D H22 en_21 fun r124 _ H45=>J (cy p)<|ad<|aw p H45 (fun k46 H47=>O<|U p<|aj<|Z ⟨false,p,H47⟩) fun k46 H47=>an<|eu (eD a0 a1 a2 K r45) (fun s48=>[(0,(.int .i64 (i64.wrap (2 + ((i64.wrap ((a0.tmod 3) + 3)).tmod 3))))),(1,(.int .u64 (ior .u64 a1 1))),(2,(.int .u64 (ior .u64 a2 2))),(10,(.pointer (some ⟨b10,0,none⟩))),(11,(pv r45))]) (fun s48=>[bx b10 24 (aE.C (⟨(i64.wrap (2 + ((i64.wrap ((a0.tmod 3) + 3)).tmod 3))),2,1⟩:aE))]) (O<|M p<|aa<|D H47 en_22 fun r128 _ H95=>M p<|J (ak p p)<|J (ak p p)<|aa<|aI (l:=aA.C (⟨0,0,0,0⟩:aA)) gO p p fun b16=>aa<|aP (k:=0) (vs:=aA.C r128.1) ge p p p p p p p<|U p<|O<|M p<|J (cy p)<|ad<|aw p H95 (fun k96 H97=>O<|M p<|J (aZ p<|gB 1 2)<|aa<|D H97 en_16 fun r136 _ H98=>M p<|J (ak p p)<|J (ak p p)<|aa<|aI (l:=ab.C (⟨0,0⟩:ab)) cY p p fun b18=>aa<|aP (k:=0) (vs:=ab.C r136.1) bL p p p p p p p<|U p<|O<|M p<|J (cy p)<|M p<|W p p (aN _) (fun g99=>wv<|ae gL p)<|W p p (aN _) (fun g100=>cv<|be (k:=0) lO (aD p g100) p p)<|W p p (aN _) (fun g101=>wv<|nY (aD p g101) p)<|J (dC p p)<|ad<|aw p H98 (fun k102 H103=>O<|U p<|aj<|Z ⟨false,p,H103⟩) fun k102 H103=>an<|cE () H103 (.cons p<|.cons p<|.cons p<|.cons p<|.cons p<|.nil _)<|.cons _<|.cons _<|.cons_cons _ .slnil) fun k96 H97=>an<|cE () H97 (.cons p<|.cons p<|.cons p<|.cons p<|.cons p<|.nil _)<|.cons _<|.cons_cons _ .slnil) fun s48 _ H49=>O<|M p<|J (aZ p<|eU 6 7 2 3)<|aa<|D H49 en_16 fun r149 _ H50=>M p<|J (ak p p)<|J (ak p p)<|aa<|aI (l:=ab.C (⟨0,0⟩:ab)) cY p p fun b20=>aa<|aP (k:=0) (vs:=ab.C r149.1) bL p p p p p p p<|U p<|O<|M p<|J (aZ p<|iX 20 7 0)<|aa<|D H50 en_16 fun r155 _ H51=>M p<|J (ak p p)<|J (ak p p)<|aa<|aI (l:=ab.C (⟨0,0⟩:ab)) cY p p fun b22=>aa<|aP (k:=0) (vs:=ab.C r155.1) bL p p p p p p p<|U p<|O<|M p<|M p<|J (aZ p<|eU 21 7 0<|ior .u64 a2 2)<|aa<|D H51 en_16 fun r161 _ H52=>ad<|am<|O<|U p<|ax<|bv (step:=iv a0 a1 K r45 r149 r155) (fun s53=>[(0,(.int .i64 (i64.wrap (2 + ((i64.wrap ((a0.tmod 3) + 3)).tmod 3))))),(1,(.int .u64 (ior .u64 a1 1))),(10,(.pointer (some ⟨b10,0,none⟩))),(11,(pv r45)),(20,(.pointer (some ⟨b20,0,none⟩))),(22,(.pointer (some ⟨b22,0,none⟩))),(24,(.int .i64 s53))]) (fun s53=>[bx b22 36 (ab.C r155.1),bx b20 36 (ab.C r149.1),bx b10 24 (aE.C (⟨(i64.wrap (2 + ((i64.wrap ((a0.tmod 3) + 3)).tmod 3))),2,1⟩:aE))]) H52 (.cons p<|.cons p<|.cons p<|.cons p<|.cons p<|.cons p<|.cons p<|.nil _) (.cons_cons _<|.cons_cons _<|.cons_cons _ .slnil) fun Rec54 s53 _ H55=>am<|O<|M p<|M p<|J (cn p p)<|ad<|aw p H55 (fun k56 H57=>an<|am<|ax<|O<|M p<|M p<|J (aZ p<|iX 20 0 0)<|aa<|D H57 en_16 fun r171 _ H58=>M p<|J (ak p p)<|J (ak p p)<|aa<|aI (l:=ab.C (⟨0,0⟩:ab)) cY p p fun b25=>aa<|aP (k:=0) (vs:=ab.C r171.1) bL p p p p p p p<|U p<|O<|M p<|J (cy p)<|M p<|W p p (aN _) (fun g59=>wv<|ae gL p)<|W p p (aN _) (fun g60=>cv<|be (k:=0) lO (aD p g60) p p)<|W p p (aN _) (fun g61=>wv<|nY (aD p g61) p)<|J (dC p p)<|ad<|aw p H58 (fun k62 H63=>O<|U p<|aj<|Z ⟨false,p,H63⟩) fun k62 H63=>an<|aq<|M p<|J (bk p p)<|U p<|cF (i64.wrap (s53 + 1)) H63 (.cons p<|.cons p<|.cons p<|.cons p<|.cons p<|.cons p<|.cons p<|.nil _)<|.cons _<|.cons_cons _<|.cons_cons _<|.cons_cons _ .slnil) fun k56 H57=>bh<|am<|O<|M p<|aa<|D H57 en_23 fun r182 _ H64=>J (dK p underlying22 p)<|M p<|ad<|ax<|bv (step:=iu a0 a1 K r45 r149 r155 r182) (fun s65=>[(1,(.int .u64 (ior .u64 a1 1))),(10,(.pointer (some ⟨b10,0,none⟩))),(11,(pv r45)),(20,(.pointer (some ⟨b20,0,none⟩))),(22,(.pointer (some ⟨b22,0,none⟩))),(182,(sv r182)),(183,(.int .i64 (r182.len:Int))),(184,(.int .i64 s65))]) (fun s65=>[bx b22 36 (ab.C r155.1),bx b20 36 (ab.C r149.1),bx b10 24 (aE.C (⟨(i64.wrap (2 + ((i64.wrap ((a0.tmod 3) + 3)).tmod 3))),2,1⟩:aE))]) H64 (.cons p<|.cons p<|.cons p<|.cons p<|.cons p<|.cons p<|.cons p<|.cons p<|.nil _) (.cons_cons _<|.cons_cons _<|.cons_cons _ .slnil) fun Rec66 s65 _ H67=>O<|J (cn p p)<|ad<|am<|aw p H67 (fun k68 H69=>an<|am<|ax<|O<|cz H69 fun q186 e70 h71 H72=>J (bf rY (aJ p<|aX e70) p h71)<|aa<|hG H72 ag_40 p (fun _=>p) p fun x187 H73=>aa<|aI (l:=aG.C (⟨0,0,(⟨0,0,0,0,0⟩:ah),0,0,0,(⟨0,0⟩:ab),(⟨0,0,0,0⟩:ap)⟩:aG)) zero_40 p p fun b28=>aa<|aP (k:=0) (vs:=aG.C x187) inf_40 p p p p p p p<|ad<|O<|J (ae nM p)<|bn (be (k:=0) bc p p p) p<|J (bP p p)<|M p<|W p p (ay _) (fun g74=>wv<|ae mz p)<|W p p (ay _) (fun g75=>wv<|bD dq (aD p g75) p (by decide))<|W p p (ay _) (fun g76=>cv<|be (k:=0) cG (aD p g76) p p)<|W p p (ay _) (fun g77=>wv<|bP (aD p g77) p)<|J (bO p p)<|M p<|W p p (ay _) (fun g78=>wv<|ae jD p)<|W p p (ay _) (fun g79=>wv<|ae gL<|aD p g79)<|W p p (ay _) (fun g80=>cv<|be (k:=0) lO (aD p g80) p p)<|W p p (ay _) (fun g81=>wv<|bP (aD p g81) p)<|J (bO p p)<|M p<|W p p (ay _) (fun g82=>wv<|ae jD p)<|W p p (ay _) (fun g83=>wv<|ae fld_36_1<|aD p g83)<|W p p (ay _) (fun g84=>cv<|be (k:=0) cG (aD p g84) p p)<|W p p (ay _) (fun g85=>wv<|ai p)<|W p p (ay _) (fun g86=>wv<|nY (aD p g86)<|aD p g86)<|J (bO p p)<|ad<|aw p H73 (fun k87 H88=>O<|U p<|aj<|Z ⟨false,p,H88⟩) fun k87 H88=>an<|aq<|J (bk p p)<|M p<|ad<|cF (i64.wrap (s65 + 1)) H88 (.cons p<|.cons p<|.cons p<|.cons p<|.cons p<|.cons p<|.cons p<|.cons p<|.nil _)<|.cons _<|.cons_cons _<|.cons_cons _<|.cons_cons _ .slnil) fun k68 H69=>bh<|am<|bo (n:=15) [bx b22 36 (ab.C r155.1),bx b20 36 (ab.C r149.1),bx b10 24 (aE.C (⟨(i64.wrap (2 + ((i64.wrap ((a0.tmod 3) + 3)).tmod 3))),2,1⟩:aE))] cu p (.cons_cons _<|.cons_cons _<|.cons_cons _ .slnil)<|V 0 p (ae gL p)<|z_E 1 p (dw (k:=1) lO p p p)<|V 2 p (bP p p)<|V 3 p (ai p)<|ox H69 (fun k89 H90=>z_n 4 p (F k89) (eK (k:=0) cM p p p p)<|z_n 5 p (F k89) (ve<|aZ (vs:=[]) p rT)<|z_n 6 p (F k89) (ve<|v_eqA eqg_36 (eqr_36 9998 _ _) p p)<|V 7 p (aU p k89 p)<|V 8 p (ai p)<|ox H90 (fun k91 H92=>z_n 9 p (F k91) (ve<|ai p)<|z_n 11 p (F k91) (eK (k:=2) qe p p p p)<|eva_1 (i:=10) (by kernel_rfl)<|way_on p p p p (F k91)<|D H92 en_23 fun r221 _ H93=>⟨.cons_cons _<|.cons_cons _<|.cons_cons _ .slnil,eva_1 (i:=12) (by kernel_rfl)<|way_on p p p p (F k91)<|D H93 en_24 fun r223 _ H94=>⟨.cons_cons _<|.cons_cons _<|.cons_cons _ .slnil,V 13 p (aU p k91 p)<|V 14 p (av p)<|aR (by kernel_rfl)<|aj<|Z ⟨r223,p,H94⟩⟩⟩) fun k91 H92=>z_f 9 p (aS k91)<|z_f 10 p (aS k91)<|z_f 11 p (aS k91)<|z_f 12 p (aS k91)<|V 13 p (au p k91 p)<|V 14 p (av p)<|aR (by kernel_rfl)<|aj<|Z ⟨false,p,H92⟩) fun k89 H90=>z_f 4 p (aS k89)<|z_f 5 p (aS k89)<|z_f 6 p (aS k89)<|V 7 p (au p k89 p)<|V 8 p (ai p)<|z_f 9 p p<|z_f 10 p p<|z_f 11 p p<|z_f 12 p p<|V 13 p (au p p p)<|V 14 p (av p)<|aR (by kernel_rfl)<|aj<|Z ⟨false,p,H90⟩
end
section
open Go Mb
namespace KK
def drain (c:Int):Nat->KK->KK
 | 0,k=>k
 | n + 1,k=>if 0 < mail k c then drain c n (post k c).2 else k
def turn1 (k:KK) (c:Int):KK × Bool:=if busy (drain c 5000 k) c = true then ((step (drain c 5000 k) c).2,true) else (drain c 5000 k,false)
def sweep:Nat->Int->KK->Bool->KK × Bool
 | 0,_,k,b=>(k,b)
 | n + 1,c,k,b=>sweep n (c + 1) (turn1 k c).1 ((turn1 k c).2 || b)
def anyBusy (k:KK):Nat->Int->Bool
 | 0,_=>false
 | n + 1,c=>busy k c || anyBusy k n (c + 1)
def settle (cores:Nat):Nat->KK->Bool × KK
 | 0,k=>(!anyBusy k cores 0,k)
 | n + 1,k=>if (sweep cores 0 k false).2 = false then (true,(sweep cores 0 k false).1) else settle cores n (sweep cores 0 k false).1
def lastA (core:Int) (es:List bp):Nat->eQ × Bool
 | 0=>(⟨0,0⟩,false)
 | n + 1=>match es[n]? with
  | some e=>if e.fQa = core then (e.fYa,decide (e.fXa > 0)) else lastA core es n
  | none=>(⟨0,0⟩,false)
def run (k:KK) (core env:Int) (c:cK):(eQ × Bool) × KK :=
 if (begin_ k core env c).1 = false then ((⟨0,0⟩,false),(begin_ k core env c).2)
 else if (settle 8 1000 (begin_ k core env c).2).1 = false then ((⟨0,0⟩,false),(settle 8 1000 (begin_ k core env c).2).2)
 else (lastA core (settle 8 1000 (begin_ k core env c).2).2.events (settle 8 1000 (begin_ k core env c).2).2.events.length,(settle 8 1000 (begin_ k core env c).2).2)
theorem access_now (k:KK) (c:Int) (x:KC):(access k c x).2.now = k.now:=by unfold access; split; rfl; split <;> rfl
theorem work_now (k:KK) (c:Int) (x:KC):(work k c x).now = k.now:=by
 unfold work;split
 ·exact access_now k c x
 ·split
  ·rfl
  ·split
   ·rfl
   ·split <;> rfl
theorem step_now {k:KK} (h0:0 <= k.now) (h:k.now < 2 ^ 38) (c:Int):k.now <= (step k c).2.now/\(step k c).2.now <= k.now + 1:=by
 have hw:=wrapN h0 (by omega);unfold step;split
 ·exact ⟨le_refl _,by show k.now <= k.now + 1; omega⟩
 ·split
  ·exact ⟨le_refl _,by show k.now <= k.now + 1; omega⟩
  ·show _ <= (work _ _ _).now/\(work _ _ _).now <= _;rw [work_now];simp only [tick,hw]; omega
theorem post_now {k:KK} (h0:0 <= k.now) (h:k.now < 2 ^ 38) (c:Int):k.now <= (post k c).2.now/\(post k c).2.now <= k.now + 1:=by
 have hw:=wrapN h0 (by omega);unfold post;split
 ·exact ⟨le_refl _,by show k.now <= k.now + 1; omega⟩
 ·split
  ·exact ⟨le_refl _,by show k.now <= k.now + 1; omega⟩
  ·show _ <= (tick k).now/\(tick k).now <= _;simp only [tick,hw]; omega
theorem begin_now {k:KK} (h0:0 <= k.now) (h:k.now < 2 ^ 38) (core env:Int) (c:cK):k.now <= (begin_ k core env c).2.now/\(begin_ k core env c).2.now <= k.now + 1:=by
 have hw:=wrapN h0 (by omega);unfold begin_;split
 ·exact ⟨le_refl _,by show k.now <= k.now + 1; omega⟩
 ·simp only [hw]; omega
end KK
section
variable {x:Ptr} {l:List As}
theorem kern_n0 {k:KK} {h:Hp} (s:aB (ce x k::l) h):0 <= k.now/\k.events.length <= k.now:=by
 obtain ⟨z,_,_,ok,_⟩:=tt s;exact ⟨ok.n0,ok.evn⟩
theorem settle_l3 {Rec:Bool × Int->Hp->Prop} {k:KK} {b:Bool} {c:Int} {h:Hp} (h0:0 <= c) (hc:c < 100) (hn:k.now + 5001 < 2 ^ 37) (st:aB (ce x k::l) h)
  (kk:∀ h',(KK.turn1 k c).1.now <= k.now + 5001->aB (ce x (KK.turn1 k c).1::l) h'->Rec ((KK.turn1 k c).2 || b,c + 1) h'):Lp (gU x Rec (b,c)) 0 h:=by
 have hj:∀ d h',KK.drain c 5000 k = d->d.now <= k.now + 5000->aB (ce x d::l) h'->fF x Rec (b,c) () h':=by
  intro d h' e hd s1;unfold fF;refine bM (i:=0) (mL x d c) rfl s1 fun r h2 hr s2=>?_;refine bM (i:=0) (mL x d c) rfl s2 fun r' h3 hr' s3=>?_;subst hr; subst hr';have hw:i64.wrap (c + 1) = c + 1:=bm (by omega) (by omega);simp only [hw];refine aY (fun k2=>?_) (fun k2=>?_)
  ·refine bM (i:=0) (xF x d c (by omega)) rfl s3 fun r h4 hr s4=>?_;have e2:KK.turn1 k c = ((KK.step d c).2,true):=by unfold KK.turn1; rw [e,if_pos k2]
   have n1:=kern_n0 s3;have n2:=KK.step_now n1.1 (by omega) c;rw [e2] at kk;rw [k2];exact kk h4 (by show (KK.step d c).2.now <= _; omega) s4
  ·have e2:KK.turn1 k c = (d,false):=by unfold KK.turn1; rw [e,if_neg (by rw [k2]; exact Bool.false_ne_true)]
   rw [e2] at kk;rw [k2];exact kk h3 (by show d.now <= _; omega) s3
 refine Lp.intro (fun (m:Int) h=>∃ (n:Nat) (d:KK),m = 5000 - n/\n <= 5000/\KK.drain c n d = KK.drain c 5000 k/\d.now <= k.now + (5000 - n)/\aB (ce x d::l) h) (fun m _=>(5000 - m).toNat) ⟨5000,k,rfl,Nat.le_refl _,rfl,by omega,st⟩ ?_;rintro m h1 ⟨n,d,rfl,hm,e,hd,s1⟩;unfold gU;refine aY (fun k1=>?_) (fun k1=>?_)
 ·have hlt:0 < n:=by have:=of_decide_eq_true k1; omega
  obtain ⟨n,rfl⟩:∃ j,n = j + 1:=⟨n - 1,by omega⟩
  refine bM (i:=0) (sp_kern_Mail x d c) rfl s1 fun r h2 hr s2=>?_;subst hr;refine aY (fun k2=>?_) (fun k2=>?_)
  ·have k2':0 < KK.mail d c:=of_decide_eq_true k2;refine bM (i:=0) (sp_kern_Post x d c (by omega)) rfl s2 fun r h3 hr s3=>?_;have n1:=kern_n0 s2;have n2:=KK.post_now n1.1 (by omega) c;have hw:i64.wrap ((5000:Int) - ((n + 1:Nat):Int) + 1) = 5000 - (n:Int):=by rw [bm (by omega) (by omega)]; omega
   rw [hw];refine ⟨⟨n,_,rfl,by omega,?_,by omega,s3⟩,by show (5000 - (5000 - (n:Int))).toNat < (5000 - (5000 - ((n + 1:Nat):Int))).toNat; omega⟩;rw [← e];exact (if_pos k2').symm
  ·have k2':¬ 0 < KK.mail d c:=of_decide_eq_false k2;exact hj d h2 (by rw [← e]; exact if_neg k2') (by omega) s2
 ·have hz:n = 0:=by have:=of_decide_eq_false k1; omega
  subst hz;exact hj d h1 e.symm (by omega) s1
theorem settle_l2 {Rec2:Int->Hp->Prop} {K:Bool->Hp->Prop} {k:KK} {m:Int} {cores:Nat} {h:Hp} (hc:cores <= 8) (hn:k.now + cores * 5001 < 2 ^ 37) (st:aB (ce x k::l) h)
  (kt:∀ h',(KK.sweep cores 0 k false).2 = false->(KK.sweep cores 0 k false).1.now <= k.now + cores * 5001->aB (ce x (KK.sweep cores 0 k false).1::l) h'->K true h')
  (kf:∀ h',(KK.sweep cores 0 k false).2 = true->(KK.sweep cores 0 k false).1.now <= k.now + cores * 5001->aB (ce x (KK.sweep cores 0 k false).1::l) h'->Rec2 (i64.wrap (m + 1)) h') :
  Lp (gV x cores K Rec2 m) (false,0) h:=by
 refine Lp.intro (fun (s:Bool × Int) h=>∃ (n:Nat) (d:KK),s.2 = (cores:Int) - n/\n <= cores/\KK.sweep n s.2 d s.1 = KK.sweep cores 0 k false/\d.now <= k.now + (cores - n) * 5001/\aB (ce x d::l) h) (fun s _=>cores - s.2.toNat)
  ⟨cores,k,by simp,Nat.le_refl _,rfl,by simp,st⟩ ?_
 rintro ⟨b,c⟩ h1 ⟨n,d,e0,hm,e,hd,s1⟩;simp only at e0 e;subst e0;unfold gV;refine aY (fun k1=>?_) (fun k1=>?_)
 ·have hlt:0 < n:=by have:=of_decide_eq_true k1; simp only at this; omega
  obtain ⟨n,rfl⟩:∃ j,n = j + 1:=⟨n - 1,by omega⟩
  have hq:(((cores:Int) - ((n + 1:Nat):Int)) * 5001) + 5001 = ((cores:Int) - n) * 5001:=by omega
  have hq2:((cores:Int) - n) * 5001 <= cores * 5001:=by omega
  refine settle_l3 (by omega) (by omega) (by omega) s1 fun h' hnow s2=>?_;have hw:(cores:Int) - ((n + 1:Nat):Int) + 1 = (cores:Int) - n:=by omega
  refine ⟨⟨n,_,hw,by omega,?_,by omega,s2⟩,?_⟩
  ·rw [← e]; rfl
  ·show cores - ((cores:Int) - ((n + 1:Nat):Int) + 1).toNat < cores - ((cores:Int) - ((n + 1:Nat):Int)).toNat;omega
 ·have hz:n = 0:=by have:=of_decide_eq_false k1; simp only at this; omega
  subst hz;have e':(d,b) = KK.sweep cores 0 k false:=e;refine aY (fun k2=>?_) (fun k2=>?_)
  ·have hb:b = false:=by simpa using k2
   rw [← e'] at kt;exact kt h1 hb (by show d.now <= _; simpa using hd) s1
  ·have hb:b = true:=by simpa using k2
   rw [← e'] at kf;exact kf h1 hb (by show d.now <= _; simpa using hd) s1
theorem settle_l4 {K:Bool->Hp->Prop} {k:KK} {cores:Nat} {h:Hp} (hc:cores <= 8) (st:aB (ce x k::l) h)
  (kk:∀ h',aB (ce x k::l) h'->K (!KK.anyBusy k cores 0) h'):Lp (gT x cores K) 0 h:=by
 refine Lp.intro (fun (c:Int) h=>∃ n:Nat,c = (cores:Int) - n/\n <= cores/\KK.anyBusy k n c = KK.anyBusy k cores 0/\aB (ce x k::l) h) (fun s _=>cores - s.toNat) ⟨cores,by simp,Nat.le_refl _,rfl,st⟩ ?_;rintro c h1 ⟨n,rfl,hm,e,s1⟩;unfold gT;refine aY (fun k1=>?_) (fun k1=>?_)
 ·have hlt:0 < n:=by have:=of_decide_eq_true k1; omega
  obtain ⟨n,rfl⟩:∃ j,n = j + 1:=⟨n - 1,by omega⟩
  refine bM (i:=0) (mL x k _) rfl s1 fun r h2 hr s2=>?_;subst hr;have e':(KK.busy k ((cores:Int) - ((n + 1:Nat):Int)) || KK.anyBusy k n ((cores:Int) - ((n + 1:Nat):Int) + 1)) = KK.anyBusy k cores 0:=e;refine aY (fun k2=>?_) (fun k2=>?_)
  ·rw [k2,Bool.true_or] at e';rw [← e'] at kk;exact kk h2 s2
  ·rw [k2,Bool.false_or] at e';have hw:i64.wrap ((cores:Int) - ((n + 1:Nat):Int) + 1) = (cores:Int) - ((n + 1:Nat):Int) + 1:=bm (by omega) (by omega);rw [hw];refine ⟨⟨n,by omega,by omega,e',s2⟩,by omega⟩
 ·have hz:n = 0:=by have:=of_decide_eq_false k1; omega
  subst hz;have e':false = KK.anyBusy k cores 0:=e;rw [← e'] at kk;exact kk h1 s1
end
theorem sp_Settle (x:Ptr) (k:KK) (cores most:Nat) (hc:cores <= 8) (hm:most <= 1000) (hn:k.now < 2 ^ 36):Sp prog fS [pv x,.int .i64 cores,.int .i64 most] aC [ce x k]
  (fun r=>pa_ (r = (KK.settle cores most k).1/\(KK.settle cores most k).2.now <= k.now + most * 40008) [ce x (KK.settle cores most k).2]):=by
 intro h st;refine wh _ _ _ ?_;unfold oJ;refine Lp.intro (fun (m:Int) h=>∃ (n:Nat) (d:KK),m = (most:Int) - n/\n <= most/\KK.settle cores n d = KK.settle cores most k/\d.now <= k.now + (most - n) * 40008/\aB [ce x d] h) (fun m _=>most - m.toNat)
  ⟨most,k,by simp,Nat.le_refl _,rfl,by simp,st⟩ ?_
 rintro m h1 ⟨n,d,rfl,hnm,e,hd,s1⟩;unfold km;have hq:((most:Int) - n) * 40008 <= 1000 * 40008:=by omega
 have hq2:(cores:Int) * 5001 <= 40008:=by omega
 refine aY (fun k1=>?_) (fun k1=>?_)
 ·have hlt:0 < n:=by have:=of_decide_eq_true k1; omega
  obtain ⟨n,rfl⟩:∃ j,n = j + 1:=⟨n - 1,by omega⟩
  have e':(if (KK.sweep cores 0 d false).2 = false then (true,(KK.sweep cores 0 d false).1) else KK.settle cores n (KK.sweep cores 0 d false).1) = KK.settle cores most k:=e;refine settle_l2 hc (by omega) s1 (fun h' hb hnow s2=>?_) (fun h' hb hnow s2=>?_)
  ·rw [if_pos hb] at e';rw [← e'];exact ba ⟨rfl,by show (KK.sweep cores 0 d false).1.now <= _; omega⟩ s2
  ·rw [if_neg (by rw [hb]; decide)] at e';have hw:i64.wrap ((most:Int) - ((n + 1:Nat):Int) + 1) = (most:Int) - n:=by rw [bm (by omega) (by omega)]; omega
   rw [hw];exact ⟨⟨n,_,rfl,by omega,e',by omega,s2⟩,by omega⟩
 ·have hz:n = 0:=by have:=of_decide_eq_false k1; omega
  subst hz;have e':(!KK.anyBusy d cores 0,d) = KK.settle cores most k:=e;refine settle_l4 hc s1 fun h' s2=>?_;rw [← e'];exact ba ⟨rfl,by show d.now <= _; simpa using hd⟩ s2
theorem run_yes {k:KK} {core env:Int} {c:cK} {d e:KK} (h1:(KK.begin_ k core env c) = (true,d)) (h2:KK.settle 8 1000 d = (true,e)):KK.run k core env c = (KK.lastA core e.events e.events.length,e):=by
 unfold KK.run;rw [h1]
 dsimp only
 rw [if_neg (by decide),h2]
 dsimp only
 rw [if_neg (by decide)]
theorem run_l1 {s:Sl} {es:List bp} {l:List As} {core:Int} {K:eQ × Bool->Hp->Prop} {h:Hp} (hb:es.length < 2 ^ 38) (st:aB (vE s es::l) h)
  (kk:∀ h',aB (vE s es::l) h'->K (KK.lastA core es es.length) h'):Lp (gH core K s) (i64.wrap ((s.len:Int) - 1),⟨0,0⟩) h:=by
 have hl:=(cj (j:=0) st rfl).1;have hw0:i64.wrap ((s.len:Int) - 1) = (es.length:Int) - 1:=by rw [hl,bm (by omega) (by omega)]
 rw [hw0];refine Lp.intro (fun (z:Int × eQ) h=>∃ n:Nat,z = ((n:Int) - 1,⟨0,0⟩)/\n <= es.length/\KK.lastA core es n = KK.lastA core es es.length/\aB (vE s es::l) h) (fun z _=>(z.1 + 1).toNat) ⟨_,rfl,Nat.le_refl _,rfl,st⟩ ?_;rintro _ h1 ⟨n,rfl,hn,e,s1⟩;unfold gH;refine aY (fun k1=>?_) (fun k1=>?_)
 ·have hlt:0 < n:=by have:=of_decide_eq_true k1; simp only at this; omega
  obtain ⟨n,rfl⟩:∃ j,n = j + 1:=⟨n - 1,by omega⟩
  have hn':n < es.length:=by omega
  have hi:((n + 1:Nat):Int) - 1 = (n:Int):=by omega
  simp only [hi];have e':(match es[n]? with
   | some e=>if e.fQa = core then (e.fYa,decide (e.fXa > 0)) else KK.lastA core es n
   | none=>(⟨0,0⟩,false)) = KK.lastA core es es.length:=e
  rw [aF hn'] at e';simp only at e';refine dk s1 (j:=0) rfl (by omega) (by show (n:Int) < _; omega) fun q hq=>?_;have lk:∀ {σ:Type} {enc:σ->List Value} {K:σ->Hp->Prop} (y:σ) (o:Nat),(∀ i v,(enc y)[i]? = some v->(es[n].C)[o + i]? = some v)->K y h1->ld (q.1,q.2 + Int.toNat (n:Int) * 16 + o) enc K h1:=by
   intro σ enc K y o he k;exact dD (j:=0) (i:=n) (k:=o) y lH s1 rfl hq (by simp) (aF hn') he k
  refine lk es[n].fQa 0 (fun i v hv=>?_) ?_
  ·rcases i with _ | i <;> first | exact hv | simp [cI] at hv
  refine aY (fun k2=>?_) (fun k2=>?_)
  ·have k2':es[n].fQa = core:=by simpa using k2
   rw [if_pos k2'] at e';have hA:∀ i v,(ab.C es[n].fYa)[i]? = some v->(es[n].C)[10 + i]? = some v:=by
    intro i v hv;rcases i with _ | _ | i <;> first | exact hv | simp [ab.C] at hv
   have hE:∀ i v,((cI .i64) es[n].fXa)[i]? = some v->(es[n].C)[9 + i]? = some v:=by
    intro i v hv;rcases i with _ | i <;> first | exact hv | simp [cI] at hv
   refine ⟨lk _ 10 hA (lk _ 9 hE ?_),lk _ 9 hE (lk _ 10 hA ?_)⟩
   ·rw [e']; exact kk h1 s1
   ·rw [e']; exact kk h1 s1
  ·have k2':¬ es[n].fQa = core:=by simpa using k2
   rw [if_neg k2'] at e';rw [bm (by omega) (by omega)];exact ⟨⟨n,rfl,by omega,e',s1⟩,by show ((n:Int) - 1 + 1).toNat < ((n:Int) + 1).toNat; omega⟩
 ·have hz:n = 0:=by have:=of_decide_eq_false k1; simp only at this; omega
  subst hz;have e':((⟨0,0⟩,false):eQ × Bool) = KK.lastA core es es.length:=e;rw [← e'] at kk;exact kk h1 s1
theorem run_no {k:KK} {core env:Int} {c:cK} {d e:KK} (h1:(KK.begin_ k core env c) = (true,d)) (h2:KK.settle 8 1000 d = (false,e)):KK.run k core env c = ((⟨0,0⟩,false),e):=by
 unfold KK.run;rw [h1]
 dsimp only
 rw [if_neg (by decide),h2]
 dsimp only
 rw [if_pos rfl]
theorem run_tail (x:Ptr) (k:KK) (core env:Int) (c:cK) (d:KK) (h1:KK.begin_ k core env c = (true,d)) (hn:d.now <= k.now + 1) (hk:k.now < 2 ^ 35) {h:Hp} (s1:aB [ce x d] h) :
  (cl prog fS [(pv x),(.int .i64 8),(.int .i64 1000)] aC fun r20 =>
   br (!r20) ((fun r h'=>pa_ (r = (KK.run k core env c).1/\(KK.run k core env c).2.now <= k.now + 40008001) [ce x (KK.run k core env c).2] h') (⟨0,0⟩,false)) (
   cl prog fy [(pv x)] eF fun r24 =>
   Lp (gH core (fun r h'=>pa_ (r = (KK.run k core env c).1/\(KK.run k core env c).2.now <= k.now + 40008001) [ce x (KK.run k core env c).2] h') r24) ((i64.wrap ((r24.len:Int) - 1)),(⟨0,0⟩:ab)))) h:=by
 have c8:=sp_Settle x d 8 1000 (Nat.le_refl _) (Nat.le_refl _) (by omega);generalize hz:KK.settle 8 1000 d = z at c8;obtain ⟨b,e⟩:=z;refine bM (i:=0) c8 rfl s1 fun r h2 hr s2=>?_;obtain ⟨hr,hs⟩:=hr;have hs':e.now <= d.now + 40008000:=hs;have n2:=kern_n0 s2;have hr':r = b:=hr;rw [hr'];cases b
 ·rw [run_no h1 hz];exact dW rfl (ba ⟨rfl,by show e.now <= _; omega⟩ s2)
 ·refine dx rfl ?_;refine xo (i:=0) (pq x _ (by show e.now < _; omega)) rfl s2 fun s h3 s3=>?_;refine run_l1 (by show e.events.length < _; have:(e.events.length:Int) <= e.now:=n2.2; omega) s3 fun h4 s4=>?_;rw [run_yes h1 hz];exact ba ⟨rfl,by show e.now <= _; omega⟩ (bY (l:=[_]) s4)
theorem rX (x:Ptr) (k:KK) (core env:Int) (c:cK) (hn:k.now < 2 ^ 35):Sp prog ci [pv x,.int .i64 core,.int .i64 env,.agg c.C.toArray] bb [ce x k]
  (fun r=>pa_ (r = (KK.run k core env c).1/\(KK.run k core env c).2.now <= k.now + 40008001) [ce x (KK.run k core env c).2]):=by
 intro h st;have n0:=kern_n0 st;have nb:=KK.begin_now n0.1 (by omega) core env c;refine sim_messuagelaw16_Run _ _ _ _ ?_;unfold rJ;refine bM (i:=0) (ri x k core env c (by omega)) rfl st fun r h1 hr s1=>?_;subst hr;refine aY (fun k1=>?_) (fun k1=>?_)
 ·have k1':(KK.begin_ k core env c).1 = false:=by simpa using k1
  have e:KK.run k core env c = ((⟨0,0⟩,false),(KK.begin_ k core env c).2):=if_pos k1';rw [e];exact ba ⟨rfl,by show (KK.begin_ k core env c).2.now <= _; omega⟩ s1
 ·have k1':(KK.begin_ k core env c).1 = true:=by simpa using k1
  exact run_tail x k core env c (KK.begin_ k core env c).2 (by rw [← k1']) (by omega) hn s1
end
section
open Go Mb
structure IE (k:KK):Prop where
 inv:fA k
 ev:jN k
theorem ie_new {s:eR} (h:PK.sized s = true):IE (KK.new s):=⟨inv_new h,evinv_new s⟩
theorem IE.begin {k:KK} (A:IE k) (hn:k.now < 2 ^ 40) (core env:Int) {c:cK} (cw:Cw c):IE (KK.begin_ k core env c).2:=⟨A.inv.begin hn core env cw,A.ev.begin A.inv.ok hn core env c⟩
theorem IE.post {k:KK} (A:IE k) (hn:k.now < 2 ^ 40) (c:Int):IE (KK.post k c).2:=by
 have hI:=A.inv.post hn c;have hw:=wrapN A.inv.ok.n0 hn;have he:(KK.post k c).2.events = k.events/\(KK.post k c).2.p = k.p/\(KK.post k c).2.calls = k.calls/\k.now <= (KK.post k c).2.now:=by
  unfold KK.post;split
  ·exact ⟨rfl,rfl,rfl,le_refl _⟩
  ·split
   ·exact ⟨rfl,rfl,rfl,le_refl _⟩
   ·exact ⟨rfl,rfl,rfl,by show k.now <= i64.wrap (k.now + 1); omega⟩
 exact ⟨hI,A.ev.same he.1 (by rw [he.2.1]) he.2.2.2 (fun c x h=>⟨x,by rw [← he.2.2.1]; exact h,rfl,rfl,rfl⟩) (fun c x h=>⟨x,by rw [he.2.2.1]; exact h,rfl⟩)⟩
theorem do_wait {k:PK} {e:Int} {c:cK} (h:(PK.do_ k e c).1.2 = false):(PK.do_ k e c).2 = k:=by
 unfold PK.do_ at h ⊢;split
 ·rfl
 ·rename_i h1;rw [if_neg h1] at h;split
  ·rfl
  ·rename_i h2;rw [if_neg h2] at h;unfold PK.does PK.errs at h ⊢
   repeat' split
   all_goals first | rfl | (exfalso; simp_all; done)
theorem access_keep (k:KK) (c:Int) (x:KC):(KK.access k c x).2.events = k.events/\(KK.access k c x).2.now = k.now/\(KK.access k c x).2.p.s = k.p.s/\(KK.access k c x).2.calls = k.calls/\(KK.access k c x).2.fFa = k.fFa:=by
 unfold KK.access;split
 ·exact ⟨rfl,rfl,rfl,rfl,rfl⟩
 ·split
  ·exact ⟨rfl,rfl,rfl,rfl,rfl⟩
  ·exact ⟨rfl,rfl,touch_s _ _ _,rfl,rfl⟩
theorem work_ev {k:KK} (E:jN k) (hlate:∀ (i:Nat) e,k.events[i]? = some e->e.fSa < k.now/\e.fHa < k.now) {c:Nat} {x:KC} (hc:c < k.calls.length) (hcx:k.calls[c]? = some (some x)):jN (KK.work k c x):=by
 unfold KK.work;by_cases hu:bE (az x.fc).1 = true
 ·rw [if_pos hu];obtain ⟨h1,h2,h3,h4,_⟩:=access_keep k c x;have E2:jN (KK.access k c x).2:=E.same h1 h3 (by rw [h2]; exact le_refl _) (fun d y h=>⟨y,by rw [← h4]; exact h,rfl,rfl,rfl⟩) (fun d y h=>⟨y,by rw [h4]; exact h,rfl⟩);exact E2.ends (by rw [h4]; exact hcx) (by rw [h1,h2]; exact hlate) _ _
 ·rw [if_neg hu];split
  ·refine E.same rfl rfl (le_refl _) (fun d y h=>?_) (fun d y h=>?_)
   ·simp only [KK.send,KK.clean,KK.tell,toNat_natCast,set_set] at h;rw [List.getElem?_set] at h;split at h
    ·rename_i e;refine ⟨x,e ▸ hcx,?_⟩;simp only [hc,if_true,Option.some.injEq] at h;rw [← h]; exact ⟨rfl,rfl,rfl⟩
    ·exact ⟨y,h,rfl,rfl,rfl⟩
   ·simp only [KK.send,KK.clean,KK.tell,toNat_natCast,set_set];rw [List.getElem?_set];by_cases e:c = d
    ·subst e;rw [hcx] at h;cases h;rw [if_pos rfl,if_pos hc];exact ⟨_,rfl,rfl⟩
    ·rw [if_neg e]; exact ⟨y,h,rfl⟩
  ·split
   ·exact E
   ·split
    ·have E2:jN { k with p:=(PK.do_ k.p x.fGa x.fc).2 }:=E.same rfl (do_s _ _ _) (le_refl _) (fun d y h=>⟨y,h,rfl,rfl,rfl⟩) (fun d y h=>⟨y,h,rfl⟩);exact E2.ends hcx hlate _ _
    ·rename_i hdone;rw [do_wait (by simpa using hdone)];exact E
theorem tick_now {k:KK} (ok:KK.Ok k) (hn:k.now < 2 ^ 40):(KK.tick k).now = k.now + 1:=wrapN ok.n0 hn
theorem tick_ev {k:KK} (ok:KK.Ok k) (E:jN k) (hn:k.now < 2 ^ 40):jN (KK.tick k):=E.same rfl rfl (by rw [tick_now ok hn]; omega) (fun c x h=>⟨x,h,rfl,rfl,rfl⟩) (fun c x h=>⟨x,h,rfl⟩)
theorem tick_late {k:KK} (ok:KK.Ok k) (E:jN k) (hn:k.now < 2 ^ 40):∀ (i:Nat) e,(KK.tick k).events[i]? = some e->e.fSa < (KK.tick k).now/\e.fHa < (KK.tick k).now:=fun i e h=>by
 have o:=E.one i e h;rw [tick_now ok hn];have h1:=o.b1;have h0:=o.b0;rcases o.st with h2 | h2
 ·exact ⟨by omega,by rw [h2.1]; omega⟩
 ·exact ⟨by omega,by omega⟩
theorem IE.step {k:KK} (A:IE k) (hn:k.now < 2 ^ 40) (c:Int):IE (KK.step k c).2:=by
 refine ⟨A.inv.step hn c,?_⟩;unfold KK.step;split
 ·exact A.ev
 ·rename_i hb;obtain ⟨hi,x,hx⟩:=busy_is (by simpa using hb);rw [hx];obtain ⟨n,rfl,hlt⟩:=kW hi;exact work_ev (tick_ev A.inv.ok A.ev hn) (tick_late A.inv.ok A.ev hn) (by show n < k.calls.length; omega) (qZ hx)
end
end Go.Proofs.YtochchocdckegaaGreatDoor
