/- Part of the proof of: The law HistReal returns true for every input, and leaves its arguments as they were. -/
import Derived.Test.YtemoifebbhoinaaGreatDoorHistReal13
set_option linter.all false
set_option maxRecDepth 20000
namespace Go.Proofs.YtemoifebbhoinaaGreatDoor
open Go.Proofs.Tryz
open Go.IntKind (i64 u64)
open _root_.Int (le_refl toNat_natCast)
open _root_.List (getElem?_set replicate set_set)
open _root_.Nat (le_of_ble_eq_true zero_le)
section
open Go Mb
structure KZ where
 b:Nat
 pp:Ptr
 ts:Sl
 tp:List Ptr
 pm:Ptr
 pe:Ptr
 cs:Sl
 cp:List Ptr
 es:Sl
abbrev kcl (z:KZ) (k:KK):List Value:=[pv z.pp,.int .i64 k.p.s.fJa,sv z.ts,pv z.pm,pv z.pe,sv z.cs,sv z.es,.int .i64 k.now]
abbrev nh (z:KZ) (k:KK):List As:=[blk z.b cm (kcl z k),bw z.pp k.p,vQ tD z.ts z.tp,all fG z.tp k.fMa,jJ z.pm k.fLa,fB z.pe k.fGa,vQ fK z.cs z.cp,all je z.cp k.calls,vE z.es k.events]
structure KZ.Ok (z:KZ) (k:KK):Prop where
 t:z.tp.length = k.fMa.length
 c:z.cp.length = k.calls.length
def dl (x:Ptr) (k:KK):As:=fun h=>∃ z:KZ,(x = some (z.b,0)/\KZ.Ok z k/\KK.Ok k)/\aB (nh z k) h
theorem tc {x:Ptr} {k:KK} {l:List As} {h:Hp} (s0:aB (dl x k::l) h):∃ z:KZ,x = some (z.b,0)/\KZ.Ok z k/\KK.Ok k/\aB (nh z k++l) h:=by
 obtain ⟨z,⟨hx,h1,ok⟩,st⟩:=op_ s0
 exact ⟨z,hx,h1,ok,st⟩
theorem nX {z:KZ} {k:KK} {l:List As} {h:Hp} (h1:KZ.Ok z k) (ok:KK.Ok k) (st:aB (nh z k++l) h):aB (dl (some (z.b,0)) k::l) h :=
 cl_ (m:=fun z:KZ=>nh z k) z ⟨rfl,h1,ok⟩ st
theorem kk_len {k:KK} (ok:KK.Ok k):k.fMa.length = k.calls.length/\k.fLa.length = k.calls.length/\k.fGa.2.length = k.calls.length/\1 <= k.calls.length/\k.calls.length <= 8:=by
 have h1:=ok.tl; have h2:=ok.bl; have h3:=ok.el; have h4:=ok.cl; have h5:=gb.1 ok.p.sz
 omega
theorem is_nat {k:KK} {c:Int} (h:KK.is k c = true):∃ n:Nat,c = n/\n < k.calls.length:=by
 have:=of_decide_eq_true (show decide (0 <= c/\c < (k.calls.length:Int)) = true from h)
 exact ⟨c.toNat,by omega,by omega⟩
theorem call_nat {k:KK} {n:Nat} (h:n < k.calls.length):KK.call k n = k.calls[n]:=by simp [KK.call,h]
theorem buf_nat {k:KK} {n:Nat} (h:n < k.fMa.length):KK.buf k n = k.fMa[n]:=by simp [KK.buf,h]
theorem tE (x:Ptr) (k:KK) (c:Int):Sp prog iG [pv x,.int .i64 c] aC [dl x k] (fun r=>pa_ (r = KK.is k c) [dl x k]):=by
 intro h s0
 obtain ⟨z,rfl,zo,ok,st⟩:=tc s0
 have hcs:=(cc (j:=6) st rfl).1
 refine sim_kern_Kern_is _ _ ?_
 unfold sh_kern_Kern_is
 refine aY (fun d=>?_) (fun d=>?_)
 ·have d':0 <= c:=by simpa using d
  refine cL (bp z.cs st (i:=0) rfl rfl rfl ?_)
  exact aZ (by rw [hcs,zo.c]; simp [KK.is,d']) s0
 ·have d':¬ 0 <= c:=by simpa using d
  exact aZ (by simp [KK.is]; intro h; exact absurd h d') s0
theorem pj (x:Ptr) (k:KK) (c:Int):Sp prog gg [pv x,.int .i64 c] aC [dl x k] (fun r=>pa_ (r = KK.busy k c) [dl x k]):=by
 intro h s0
 refine sim_kern_Kern_Busy _ _ ?_
 unfold vn
 refine bS (tE x k c) (i:=0) rfl s0 fun r h1 hr s1=>?_
 subst hr
 refine aY (fun d=>?_) (fun d=>?_)
 ·obtain ⟨n,rfl,hn⟩:=is_nat d
  obtain ⟨z,rfl,zo,ok,st⟩:=tc s1
  have hcs:=(cc (j:=6) st rfl).1
  have hn':n < z.cp.length:=by rw [zo.c]; exact hn
  refine cL (bp z.cs st (i:=0) rfl rfl rfl ?_)
  refine cZ st (j:=6) rfl (by omega) (by omega) fun q hq=>?_
  refine dz (j:=6) (i:=n) (k:=0) z.cp[n] gR st rfl hq (by simp) (aE hn') (by simp) ?_
  refine aZ ?_ s1
  unfold KK.busy
  rw [d,call_nat hn]
  cases hc:k.calls[n] with
  | none =>
   have:=call_none (j:=7) st rfl (aE hn') (by rw [aE hn,hc])
   rw [this]; rfl
  | some y =>
   obtain ⟨b,hp,_⟩:=xu (j:=7) st rfl (aE hn') (by rw [aE hn,hc])
   rw [hp]; rfl
 ·exact aZ (by unfold KK.busy; rw [d]; rfl) s1
theorem sp_kern_Begin (x:Ptr) (k:KK) (core env:Int) (c:dp) (hn:k.now < 2 ^ 38):Sp prog lH [pv x,.int .i64 core,.int .i64 env,.agg c.C.toArray] aC [dl x k] (fun r=>pa_ (r = (KK.begin_ k core env c).1) [dl x (KK.begin_ k core env c).2]):=by
 intro h s0
 refine sim_kern_Kern_Begin _ _ _ _ ?_
 unfold tQ
 have no:(KK.is k core = false\/KK.busy k core = true\/env < 0\/env >= k.p.s.fJa)->KK.begin_ k core env c = (false,k):=fun hh=>if_pos hh
 refine bS (tE x k core) (i:=0) rfl s0 fun r h1 hr s1=>?_
 subst hr
 refine aY (fun d=>?_) (fun d=>?_)
 ·have d':KK.is k core = true:=by simpa using d
  refine bS (pj x k core) (i:=0) rfl s1 fun r h2 hr s2=>?_
  subst hr
  refine aY (fun d2=>?_) (fun d2=>?_)
  ·have d2':KK.busy k core = false/\¬ env < 0:=by simpa using d2
   obtain ⟨z,rfl,zo,ok,st⟩:=tc s2
   refine cL (bp k.p.s.fJa st (i:=0) rfl rfl rfl ?_)
   refine aY (fun d3=>?_) (fun d3=>?_)
   ·rw [no (.inr (.inr (.inr (by simpa using d3))))]
    exact aZ rfl s2
   ·have d3':¬ env >= k.p.s.fJa:=by simpa using d3
    have ok2:=kok_begin ok (by omega) core env c
    have e1:KK.begin_ k core env c = (true,{ k with now:=i64.wrap (k.now + 1),events:=k.events++[KK.ev0 core env c (i64.wrap (k.now + 1))],calls:=k.calls.set core.toNat (some ⟨k.events.length,env,c,false,0⟩) }):=by
     unfold KK.begin_; rw [if_neg]; simp [d',d2'.1]; omega
    rw [e1] at ok2 ⊢
    obtain ⟨n,rfl,hcn⟩:=is_nat d'
    have hn':n < z.cp.length:=by rw [zo.c]; exact hcn
    have hcs:=(cc (j:=6) st rfl).1
    have hel:=ok.evn
    refine bp k.now st (i:=0) rfl rfl rfl ?_
    refine uG (i:=0) st rfl (le_of_ble_eq_true rfl) fun h3 s3=>?_
    refine bp (i64.wrap (k.now + 1)) s3 (i:=0) rfl rfl rfl ?_
    refine bp z.es s3 (i:=0) rfl rfl rfl ?_
    refine la (τ:=bu) (i:=8) (enc:=aA.C) (val:=fun x=>.agg x.C.toArray) (x:=KK.ev0 n env c (i64.wrap (k.now + 1))) rh kM ev_one (fun _=>rfl) (by omega) rfl rfl s3 rfl (by omega) (by omega) fun v h4 s4=>?_
    refine uG (i:=0) s4 rfl (le_of_ble_eq_true rfl) fun h5 s5=>?_
    refine bp v s5 (i:=0) rfl rfl rfl ?_
    have hvl:=(cc (j:=8) s5 rfl).1
    refine bp z.cs s5 (i:=0) rfl rfl rfl ?_
    have hw:i64.wrap ((v.len:Int) - 1) = k.events.length:=by rw [hvl]; rw [bm] <;> simp <;> omega
    rw [hw]
    refine pG s5 fun b68 h6 s6=>?_
    refine cZ s6 (j:=7) rfl (by omega) (by omega) fun q hq=>?_
    refine uF (j:=7) (i:=n) (k:=0) (some (b68,0):Ptr) gR s6 rfl hq (by simp) (aE hn') (by simp) rfl fun h7 s7=>?_
    have s8:=bb [8] s7 rfl
    have s10:=all_but (aE hn') (aE hcn) s8
    have s12:=call_mk (y:=⟨k.events.length,env,c,false,0⟩) (bb [1,0] s10 rfl)
    have s14:=all_in2 (A:=je) hcn zo.c s12
    refine aZ rfl (nX (z:={ z with es:=v,cp:=z.cp.set n (some (b68,0)) }) ⟨zo.t,by simpa using zo.c⟩ ok2 (bb [1,1,1,1,1,1,1,0,0] s14 rfl))
  ·rw [no]
   ·exact aZ rfl s2
   ·simp at d2
    cases hb:KK.busy k core with
    | true=>exact .inr (.inl rfl)
    | false=>exact .inr (.inr (.inl (d2 hb)))
 ·rw [no (.inl (by simpa using d))]
  exact aZ rfl s1
theorem cleans_drop (k:KK) (ls:List jM) (n:Nat) (h:n < ls.length) (b:Buf):KK.cleans k (ls.drop n) b = if KK.stale k ls[n] = true then KK.cleans k (ls.drop (n + 1)) (Tlb.flush b ls[n].fCa ls[n].fPa).2 else KK.cleans k (ls.drop (n + 1)) b:=by
 rw [List.drop_eq_getElem_cons h,KK.cleans]
theorem sp_kern_clean (z:KZ) (k:KK) (c:Nat) (hc:c < k.calls.length) (zo:KZ.Ok z k) (ok:KK.Ok k) :
  Sp prog lG [pv (some (z.b,0)),.int .i64 c] R_ (nh z k) (fun _=>aB (nh z (KK.clean k c))):=by
 intro h s0
 obtain ⟨l1,l2,l3,l4,l5⟩:=kk_len ok
 have hct:c < k.fMa.length:=by omega
 have hcp:c < z.tp.length:=by rw [zo.t]; exact hct
 have hts:=(cc (j:=2) s0 rfl).1
 refine sim_kern_Kern_clean _ _ ?_
 unfold tO
 refine cL (bp z.ts s0 (i:=0) rfl rfl rfl ?_)
 refine cZ s0 (j:=2) rfl (by omega) (by omega) fun q hq=>?_
 refine dz (j:=2) (i:=c) (k:=0) z.tp[c] gR s0 rfl hq (by simp) (aE hcp) (by simp) ?_
 have s1:=jC (aE hcp) (aE hct) (bb [3] s0 rfl)
 refine xt (sp_tlb_Lines z.tp[c] k.fMa[c]) (i:=0) rfl s1 fun r h2 s2=>?_
 have s3:=uC (aE hcp) (aE hct) zo.t (bb [1,1] s2 rfl)
 have s4:aB (vL r (Tlb.lines k.fMa[c])::nh z k) h2:=bb [1,1,1,1,0] s3 rfl
 have hll:(Tlb.lines k.fMa[c]).length = 8:=by
  obtain ⟨_,_,h8,_⟩:=nZ s1
  unfold Tlb.lines; simpa using h8
 have hrl:=(cc (j:=0) s4 rfl).1
 have hbuf:KK.buf k c = k.fMa[c]:=buf_nat hct
 have same:k.fMa.set c k.fMa[c] = k.fMa:=jm (aE hct)
 refine Lp.intro (fun (i:Int) h=>∃ (n:Nat) (b:Buf),i = n/\n <= 8/\KK.cleans k ((Tlb.lines k.fMa[c]).drop n) b = KK.cleans k (Tlb.lines k.fMa[c]) k.fMa[c]/\aB (vL r (Tlb.lines k.fMa[c])::nh z { k with fMa:=k.fMa.set c b }) h) (fun (i:Int) _=>8 - i.toNat) ⟨0,k.fMa[c],rfl,zero_le _,rfl,by rw [same]; exact s4⟩ ?_
 rintro i h ⟨n,b,rfl,hn,he,s5⟩
 unfold oz
 refine aY (fun d=>?_) (fun d=>?_)
 ·have hlt:n < (Tlb.lines k.fMa[c]).length:=by rw [hrl] at d; simpa using d
  have hw:i64.wrap ((n:Int) + 1) = ((n + 1:Nat):Int):=by rw [bm (by omega) (by omega)]; rfl
  rw [cleans_drop k _ n hlt] at he
  refine cZ s5 (j:=0) rfl (by omega) (by omega) fun q2 hq2=>?_
  refine dz (j:=0) (i:=n) (k:=0) (Tlb.lines k.fMa[c])[n] line_len s5 rfl hq2 (by simp) (aE hlt) (by simp) ?_
  have hcb:c < (k.fMa.set c b).length:=by simpa using hct
  have hgb:(k.fMa.set c b)[c] = b:=by simp
  have j1:∀ (o:Bool × Pte) (h:Hp),((decide ((Tlb.lines k.fMa[c])[n].fCa >= 0)) && (((!o.1) || (o.2.fEa != (Tlb.lines k.fMa[c])[n].fEa)) || (!(aP (Tlb.lines k.fMa[c])[n].fBa o.2.fBa)))) = KK.stale k (Tlb.lines k.fMa[c])[n]->aB (vL r (Tlb.lines k.fMa[c])::nh z { k with fMa:=k.fMa.set c b }) h ->
    iJ c (z.b,0) (fun s' h'=>(∃ (n:Nat) (b:Buf),s' = n/\n <= 8/\KK.cleans k ((Tlb.lines k.fMa[c]).drop n) b = KK.cleans k (Tlb.lines k.fMa[c]) k.fMa[c]/\aB (vL r (Tlb.lines k.fMa[c])::nh z { k with fMa:=k.fMa.set c b }) h')/\8 - s'.toNat < 8 - (n:Int).toNat) n (Tlb.lines k.fMa[c])[n] o h:=by
   intro o h hs s6
   unfold iJ
   rw [hs,hw]
   refine aY (fun d2=>?_) (fun d2=>?_)
   ·rw [if_pos d2] at he
    refine bp z.ts s6 (i:=1) rfl rfl rfl ?_
    refine cZ s6 (j:=3) rfl (by omega) (by omega) fun q3 hq3=>?_
    refine dz (j:=3) (i:=c) (k:=0) z.tp[c] gR s6 rfl hq3 (by simp) (aE hcp) (by simp) ?_
    have s7:=jC (aE hcp) (aE hcb) (bb [4] s6 rfl)
    rw [hgb] at s7
    refine bS (sp_tlb_Flush z.tp[c] b _ _) (i:=0) rfl s7 fun r h8 hr s8=>?_
    have s9:=wx (aE hcp) hcb (by simpa using zo.t) s8
    rw [set_set] at s9
    exact ⟨⟨n + 1,_,rfl,by omega,he,bb [1,1,1,1] s9 rfl⟩,by simp; omega⟩
   ·rw [if_neg (by rw [d2]; exact Bool.false_ne_true)] at he
    exact ⟨⟨n + 1,b,rfl,by omega,he,s6⟩,by simp; omega⟩
  refine aY (fun d2=>?_) (fun d2=>?_)
  ·have d2':0 <= (Tlb.lines k.fMa[c])[n].fCa:=by simpa using d2
   refine cW [1,1,5,5] (sp_kern_seen z.b z.pp (kcl z k) k.p z.cs z.cp k.calls (Tlb.lines k.fMa[c])[n].fCa (Tlb.lines k.fMa[c])[n].fPa rfl rfl zo.c l5) s5 rfl fun r h6 s6=>?_
   obtain ⟨rfl,s7⟩:=bt.1 s6
   refine j1 _ _ ?_ (bb [4,0,0,2,2,2,2,0,0] s7 rfl)
   unfold KK.stale KK.seen
   rfl
  ·have d2':¬ 0 <= (Tlb.lines k.fMa[c])[n].fCa:=by simpa using d2
   refine j1 _ _ ?_ s5
   unfold KK.stale
   rw [d2,Bool.false_and,Bool.false_and]
 ·have:n = 8:=by rw [hrl] at d; simp at d; omega
  subst this
  rw [← hll,List.drop_length] at he
  have e1:KK.clean k c = { k with fMa:=k.fMa.set c b }:=by
   unfold KK.clean
   rw [hbuf,← he,toNat_natCast]; rfl
  rw [e1]
  exact cd (l:=[vL r (Tlb.lines k.fMa[c])]) s5
theorem sp_kern_ends (z:KZ) (k:KK) (c:Nat) (x:KC) (a:fe) (l:jM) (hc:c < k.calls.length) (hx:k.calls[c]? = some (some x)) (zo:KZ.Ok z k) (ok:KK.Ok k) :
  Sp prog mO [pv (some (z.b,0)),.int .i64 c,.agg a.C.toArray,.agg l.C.toArray] R_ (nh z k) (fun _=>aB [dl (some (z.b,0)) (KK.ends k c x a l)]):=by
 intro h s0
 have hcp:c < z.cp.length:=by rw [zo.c]; exact hc
 have hcs:=(cc (j:=6) s0 rfl).1
 have hes:=(cc (j:=8) s0 rfl).1
 obtain ⟨xb,hp,_⟩:=xu (j:=7) s0 rfl (aE hcp) hx
 have hcpx:z.cp[c]? = some (some (xb,0)):=by rw [aE hcp,hp]
 have hcok:=ok.cs x (List.mem_of_getElem? hx)
 obtain ⟨i,hi⟩:=Int.eq_ofNat_of_zero_le hcok.1
 have hil:i < k.events.length:=by omega
 refine sim_kern_Kern_ends _ _ _ _ ?_
 unfold vh
 refine cL (bp z.es s0 (i:=0) rfl rfl rfl ?_)
 refine bp z.cs s0 (i:=0) rfl rfl rfl ?_
 refine cZ s0 (j:=6) rfl (by omega) (by omega) fun q hq=>?_
 refine dz (j:=6) (i:=c) (k:=0) z.cp[c] gR s0 rfl hq (by simp) (aE hcp) (by simp) ?_
 rw [hp]
 refine cL (ld_c1 (j:=7) x.fat s0 rfl hcpx hx rfl rfl ?_)
 rw [hi]
 refine cZ s0 (j:=8) rfl (by omega) (by omega) fun q2 hq2=>?_
 refine bp k.now s0 (i:=0) rfl rfl rfl ?_
 refine bp k.now s0 (i:=0) rfl rfl rfl ?_
 refine uF (j:=8) (i:=i) (k:=8) { k.events[i] with fHa:=k.now } kM s0 rfl hq2 rfl (aE hil) (by simp) rfl fun h1 s1=>?_
 have e1:(k.events.set i { k.events[i] with fHa:=k.now })[i]? = some { k.events[i] with fHa:=k.now }:=by simp [hil]
 refine uF (j:=8) (i:=i) (k:=9) { k.events[i] with fHa:=k.now,fTa:=k.now } kM s1 rfl hq2 rfl e1 (by simp) rfl fun h2 s2=>?_
 simp only [set_set] at s2
 have e2:(k.events.set i { k.events[i] with fHa:=k.now,fTa:=k.now })[i]? = some { k.events[i] with fHa:=k.now,fTa:=k.now }:=by simp [hil]
 refine uF (j:=8) (i:=i) (k:=10) { k.events[i] with fHa:=k.now,fTa:=k.now,fAb:=a } kM s2 rfl hq2 rfl e2 (by simp [ad.C]) rfl fun h3 s3=>?_
 simp only [set_set] at s3
 have e3:(k.events.set i { k.events[i] with fHa:=k.now,fTa:=k.now,fAb:=a })[i]? = some { k.events[i] with fHa:=k.now,fTa:=k.now,fAb:=a }:=by simp [hil]
 refine uF (j:=8) (i:=i) (k:=12) (KK.evend k.events[i] k.now a l) kM s3 rfl hq2 rfl e3 (by simp [ao.C]) rfl fun h4 s4=>?_
 simp only [set_set] at s4
 refine bp z.cs s4 (i:=0) rfl rfl rfl ?_
 refine cZ s4 (j:=6) rfl (by omega) (by omega) fun q5 hq5=>?_
 refine uF (j:=6) (i:=c) (k:=0) (none:Ptr) gR s4 rfl hq5 (by simp) (aE hcp) (by simp) rfl fun h5 s5=>?_
 have s7:=all_but hcpx hx (bb [7] s5 rfl)
 have s8:=star_cons (A:=je none none) (fun _=>rfl) s7
 have s9:=all_in2 (A:=je) hc zo.c s8
 have hge:k.events.getD i (KK.ev0 0 0 ⟨0,0,0,0,0⟩ 0) = k.events[i]:=by simp [hil]
 have e4:KK.ends k c x a l = { k with events:=k.events.set i (KK.evend k.events[i] k.now a l),calls:=k.calls.set c none }:=by
  unfold KK.ends; rw [hi,toNat_natCast,toNat_natCast,hge]
 have ok2:=kok_ends ok c x a l
 rw [e4] at ok2 ⊢
 refine nX (z:={ z with cp:=z.cp.set c none }) ⟨zo.t,by simpa using zo.c⟩ ok2 (bb [1,1,1,1,1,1,1,0,0] s9 rfl)
end
section
open Go Mb
theorem five {x:KC}:∀ (i:Nat) (v:Value),(ak.C x.fc)[i]? = some v->x.C[2 + i]? = some v:=by
 intro j v hv
 have:j < 5:=(List.getElem?_eq_some_iff.1 hv).1
 match j,this with
 | 0,_=>exact hv
 | 1,_=>exact hv
 | 2,_=>exact hv
 | 3,_=>exact hv
 | 4,_=>exact hv
theorem sp_kern_access (z:KZ) (k:KK) (c xb:Nat) (x:KC) (hc:c < k.calls.length) (hx:k.calls[c]? = some (some x)) (hp:z.cp[c]? = some (some (xb,0))) (zo:KZ.Ok z k) (ok:KK.Ok k) :
  Sp prog ou [pv (some (z.b,0)),.int .i64 c,pv (some (xb,0))] eY (nh z k) (fun r=>pa_ (r = (KK.access k c x).1) (nh z (KK.access k c x).2)):=by
 intro h s0
 obtain ⟨l1,l2,l3,l4,l5⟩:=kk_len ok
 have hct:c < k.fMa.length:=by omega
 have hcp:c < z.tp.length:=by rw [zo.t]; exact hct
 have hbuf:KK.buf k c = k.fMa[c]:=buf_nat hct
 refine sim_kern_Kern_access _ _ _ ?_
 unfold sF
 refine cL (cL ?_)
 refine ld_c (j:=7) x.fc s0 rfl hp hx five ?_
 refine bp k.p.s.fJa s0 (i:=0) rfl rfl rfl ?_
 refine uJ (jH x.fc _) s0 fun r h1 hr s1=>?_
 subst hr
 refine aY (fun d=>?_) (fun d=>?_)
 ·have e1:KK.access k c x = ((⟨Word.check x.fc k.p.s.fJa,0⟩,ke),k):=if_pos (by simpa using d)
  rw [e1]; exact aZ rfl s1
 ·have d':¬ Word.check x.fc k.p.s.fJa ≠ 0:=by simpa using d
  refine ld_c1 (j:=7) x.fc.e1 s1 rfl hp hx rfl rfl ?_
  refine mY pf s1 fun r37 h2 s2=>?_
  refine ld_c1 (j:=8) x.fFa s2 rfl hp hx rfl rfl ?_
  refine cW [1,1,5,5] (sp_kern_seen z.b z.pp (kcl z k) k.p z.cs z.cp k.calls x.fFa (i64.wrap x.fc.e1) rfl rfl zo.c l5) s2 rfl fun r h3 s3=>?_
  obtain ⟨hr,s4⟩:=bt.1 s3
  have hr':r = KK.seen k x.fFa (i64.wrap x.fc.e1):=hr
  subst hr'
  have s5:aB (de r37 (replicate 8 dn)::nh z k) h3:=bb [4,0,0,2,2,2,2,0,0] s4 rfl
  have j1:∀ h,aB (de r37 (KK.fGb k x.fFa (i64.wrap x.fc.e1))::nh z k) h->gZ c (fun r=>pa_ (r = (KK.access k c x).1) (nh z (KK.access k c x).2)) (xb,0) (z.b,0) x.fc.e1 r37 () h:=by
   intro h s6
   have hts:=(cc (j:=3) s6 rfl).1
   unfold gZ
   refine ld_c1 (j:=8) x.fc.e0 s6 rfl hp hx rfl rfl ?_
   refine bp z.ts s6 (i:=1) rfl rfl rfl ?_
   refine cZ s6 (j:=3) rfl (by omega) (by omega) fun q hq=>?_
   refine dz (j:=3) (i:=c) (k:=0) z.tp[c] gR s6 rfl hq (by simp) (aE hcp) (by simp) ?_
   refine ld_c1 (j:=8) x.fFa s6 rfl hp hx rfl rfl ?_
   have s7:=jC (aE hcp) (aE hct) (bb [4] s6 rfl)
   refine cW [0,1] (sp_user_Walk z.tp[c] r37 k.fMa[c] (KK.fGb k x.fFa (i64.wrap x.fc.e1)) x.fFa (i64.wrap x.fc.e1) (i64.wrap x.fc.e0)) s7 rfl fun r h8 s8=>?_
   obtain ⟨hr,s9⟩:=bt.1 s8
   have hr':r = (KK.fZa k c x).1:=by rw [hr]; unfold KK.fZa; rw [hbuf]
   have hw:(User.walk k.fMa[c] (KK.fGb k x.fFa (i64.wrap x.fc.e1)) x.fFa (i64.wrap x.fc.e1) (i64.wrap x.fc.e0)).2 = (KK.fZa k c x).2:=by unfold KK.fZa; rw [hbuf]
   rw [hw] at s9
   subst hr'
   have s10:=wx (aE hcp) hct zo.t (bb [0,1] s9 rfl)
   refine aY (fun d2=>?_) (fun d2=>?_)
   ·have e1:KK.access k c x = ((⟨7,0⟩,ke),{ k with fMa:=k.fMa.set c (KK.fZa k c x).2 }):=by
     unfold KK.access; rw [if_neg d',if_pos (by simpa using d2),toNat_natCast]
    rw [e1]
    exact aZ rfl (cd (l:=[de r37 _]) (bb [1,1,1,1,0] s10 rfl))
   ·have e1:KK.access k c x = (((PK.touch k.p (KK.fZa k c x).1.1.fEa x.fc).1.1,(KK.fZa k c x).1.1),{ k with fMa:=k.fMa.set c (KK.fZa k c x).2,p:=(PK.touch k.p (KK.fZa k c x).1.1.fEa x.fc).2 }):=by
     unfold KK.access; rw [if_neg d',if_neg (by simpa using d2),toNat_natCast]
    rw [e1]
    refine bp z.pp s10 (i:=2) rfl rfl rfl ?_
    refine ld_c (j:=8) x.fc s10 rfl hp hx five ?_
    refine bS (ph z.pp k.p _ x.fc) (i:=3) rfl s10 fun r h11 hr s11=>?_
    subst hr
    have hs:=touch_s k.p (KK.fZa k c x).1.1.fEa x.fc
    refine aZ rfl ?_
    have s12:=cd (l:=[de r37 _]) (bb [1,1,1,1,0] s11 rfl)
    have ek:kcl z { k with fMa:=k.fMa.set c (KK.fZa k c x).2,p:=(PK.touch k.p (KK.fZa k c x).1.1.fEa x.fc).2 } = kcl z k:=by
     show [pv z.pp,Value.int .i64 (PK.touch k.p (KK.fZa k c x).1.1.fEa x.fc).2.s.fJa,_,_,_,_,_,_] = _
     rw [hs]
    show aB (blk z.b cm (kcl z _)::_) _
    rw [ek]
    exact s12
  refine aY (fun d2=>?_) (fun d2=>?_)
  ·refine bS (kR r37 _ (i64.wrap x.fc.e1) (KK.seen k x.fFa (i64.wrap x.fc.e1)).1) (i:=0) rfl s5 fun r h6 hr s6=>j1 _ ?_
   have e1:KK.fGb k x.fFa (i64.wrap x.fc.e1) = (Table.insert (replicate 8 dn) (i64.wrap x.fc.e1) (KK.seen k x.fFa (i64.wrap x.fc.e1)).1).2:=if_pos d2
   rw [e1]; exact s6
  ·have e1:KK.fGb k x.fFa (i64.wrap x.fc.e1) = replicate 8 dn:=if_neg (by rw [d2]; exact Bool.false_ne_true)
   exact j1 _ (by rw [e1]; exact s5)
theorem access_calls (k:KK) (c:Int) (x:KC):(KK.access k c x).2.calls = k.calls:=by
 unfold KK.access
 repeat' split
 all_goals rfl
theorem access_tlen (k:KK) (c:Int) (x:KC):(KK.access k c x).2.fMa.length = k.fMa.length:=by
 unfold KK.access
 repeat' split
 all_goals simp
theorem kz_tlbs {z:KZ} {k k':KK} (zo:KZ.Ok z k) (h1:k'.fMa.length = k.fMa.length) (h2:k'.calls.length = k.calls.length):KZ.Ok z k':=⟨by rw [h1]; exact zo.t,by rw [h2]; exact zo.c⟩
theorem sp_kern_Step (x:Ptr) (k:KK) (c:Int) (hn:k.now < 2 ^ 37):Sp prog mP [pv x,.int .i64 c] aC [dl x k] (fun r=>pa_ (r = (KK.step k c).1) [dl x (KK.step k c).2]):=by
 intro h s0
 refine sim_kern_Kern_Step _ _ ?_
 unfold vi
 refine bS (pj x k c) (i:=0) rfl s0 fun r h1 hr s1=>?_
 subst hr
 refine aY (fun d=>?_) (fun d=>?_)
 ·have e1:KK.step k c = (false,k):=if_pos (by simpa using d)
  rw [e1]; exact aZ rfl s1
 ·have d':KK.busy k c = true:=by simpa using d
  obtain ⟨hi,y,hy⟩:=busy_is d'
  have e1:KK.step k c = (true,KK.work (KK.tick k) c y):=by unfold KK.step; rw [if_neg (by simp [d']),hy]
  rw [e1]
  obtain ⟨z,rfl,zo,ok,st⟩:=tc s1
  have okt:=kok_tick ok (by omega)
  obtain ⟨n,rfl,hnc⟩:=is_nat hi
  obtain ⟨l1,l2,l3,l4,l5⟩:=kk_len ok
  have hnp:n < z.cp.length:=by rw [zo.c]; exact hnc
  have hcs:=(cc (j:=6) st rfl).1
  have hxn:k.calls[n]? = some (some y):=by rw [aE hnc,← call_nat hnc,hy]
  have hep:=ok.epn
  have hwn:=wrapN ok.n0 (show k.now < 2 ^ 40 by omega)
  refine cL (bp k.now st (i:=0) rfl rfl rfl ?_)
  refine uG (i:=0) st rfl (le_of_ble_eq_true rfl) fun h2 s2=>?_
  have s3:aB (nh z (KK.tick k)) h2:=s2
  have zot:KZ.Ok z (KK.tick k):=⟨zo.t,zo.c⟩
  have hxt:(KK.tick k).calls[n]? = some (some y):=hxn
  have hyt:KK.call (KK.tick k) n = some y:=hy
  have hit:KK.is (KK.tick k) n = true:=hi
  have hept:((KK.tick k).fGa.1.length:Int) + 1 <= (KK.tick k).now:=by show _ <= i64.wrap (k.now + 1); rw [hwn]; simp only [KK.tick]; omega
  have hnt:(KK.tick k).now <= 2 ^ 37:=by show i64.wrap (k.now + 1) <= _; rw [hwn]; omega
  have okw:=kok_work okt hept hyt hit
  have hnct:n < (KK.tick k).calls.length:=hnc
  generalize KK.tick k = kt at *
  obtain ⟨xb,hp,_⟩:=xu (j:=7) s3 rfl (aE hnp) hxt
  have hpx:z.cp[n]? = some (some (xb,0)):=by rw [aE hnp,hp]
  refine bp z.cs s3 (i:=0) rfl rfl rfl ?_
  refine cZ s3 (j:=6) rfl (by omega) (by omega) fun q hq=>?_
  refine dz (j:=6) (i:=n) (k:=0) z.cp[n] gR s3 rfl hq (by simp) (aE hnp) (by simp) ?_
  rw [hp]
  refine cL (ld_c (j:=7) y.fc s3 rfl hpx hxt five ?_)
  refine aY (fun d2=>?_) (fun d2=>?_)
  ·have ew:KK.work kt n y = KK.ends (KK.access kt n y).2 n y (KK.access kt n y).1.1 (KK.access kt n y).1.2:=if_pos d2
   rw [ew]
   have oka:=kok_access okt n y
   have hca:(KK.access kt n y).2.calls = kt.calls:=access_calls _ _ _
   have hta:(KK.access kt n y).2.fMa.length = kt.fMa.length:=access_tlen _ _ _
   refine cW [0,0,0,0,0,0,0,0,0] (sp_kern_access z kt n xb y hnct hxt hpx zot okt) s3 rfl fun r h4 s4=>?_
   obtain ⟨hr,s5⟩:=bt.1 s4
   subst hr
   refine cW [0,0,0,0,0,0,0,0,0] (sp_kern_ends z (KK.access kt n y).2 n y (KK.access kt n y).1.1 (KK.access kt n y).1.2 (by rw [hca]; exact hnct) (by rw [hca]; exact hxt) (kz_tlbs zot hta (by rw [hca])) oka) s5 rfl fun r h6 s6=>?_
   exact aZ rfl (dE s6)
  ·have d2':¬ bJ (az y.fc).1 = true:=by rw [d2]; exact Bool.false_ne_true
   have j2:∀ b:Bool,(y.fRa = false/\KK.takes kt.p y = true) = False->b = (y.fRa && !(fNa.done kt.fGa y.fCb))->∀ h,aB (nh z kt) h->jy n (fun r=>pa_ (r = true) [dl (some (z.b,0)) (KK.work kt n y)]) (z.b,0) (xb,0) b h:=by
    intro b hno hb h s4
    have ew:KK.work kt n y = (if y.fRa = true/\fNa.done kt.fGa y.fCb = false then kt else if (PK.do_ kt.p y.fFa y.fc).1.2 = true then KK.ends { kt with p:=(PK.do_ kt.p y.fFa y.fc).2 } n y (PK.do_ kt.p y.fFa y.fc).1.1 ke else { kt with p:=(PK.do_ kt.p y.fFa y.fc).2 }):=by
     unfold KK.work
     rw [if_neg d2',if_neg (by rw [hno]; exact not_false)]
    rw [ew] at okw ⊢
    unfold jy
    refine aY (fun d4=>?_) (fun d4=>?_)
    ·have d4':y.fRa = true/\fNa.done kt.fGa y.fCb = false:=by rw [hb] at d4; simpa using d4
     rw [if_pos d4']
     exact aZ rfl (nX zot okt s4)
    ·have d4':¬ (y.fRa = true/\fNa.done kt.fGa y.fCb = false):=by rw [hb] at d4; simpa using d4
     rw [if_neg d4'] at okw ⊢
     refine bp z.pp s4 (i:=0) rfl rfl rfl ?_
     refine ld_c1 (j:=7) y.fFa s4 rfl hpx hxt rfl rfl ?_
     refine ld_c (j:=7) y.fc s4 rfl hpx hxt five ?_
     refine bS (ku z.pp kt.p y.fFa y.fc) (i:=1) rfl s4 fun r h5 hr s5=>?_
     subst hr
     have hs:=do_s kt.p y.fFa y.fc
     have s6:aB (nh z { kt with p:=(PK.do_ kt.p y.fFa y.fc).2 }) h5:=by
      show aB (blk z.b cm [pv z.pp,Value.int .i64 (PK.do_ kt.p y.fFa y.fc).2.s.fJa,_,_,_,_,_,_]::_) _
      rw [hs]; exact s5
     have okp:=kok_p okt (ok_do okt.p y.fFa y.fc) hs
     refine aY (fun d5=>?_) (fun d5=>?_)
     ·rw [if_pos d5]
      refine cW [0,0,0,0,0,0,0,0,0] (sp_kern_ends z { kt with p:=(PK.do_ kt.p y.fFa y.fc).2 } n y (PK.do_ kt.p y.fFa y.fc).1.1 ke hnct hxt ⟨zot.t,zot.c⟩ okp) s6 rfl fun r h7 s7=>?_
      exact aZ rfl (dE s7)
     ·rw [if_neg (by rw [d5]; exact Bool.false_ne_true)]
      exact aZ rfl (nX (k:={ kt with p:=_ }) ⟨zot.t,zot.c⟩ okp s6)
   refine ld_c1 (j:=7) y.fRa s3 rfl hpx hxt rfl rfl ?_
   refine aY (fun d3=>?_) (fun d3=>?_)
   ·have d3':y.fRa = false:=by simpa using d3
    obtain ⟨xb',hp',s4⟩:=call_out hpx hxt (bb [7] s3 rfl)
    cases hp'
    refine cW [2,0,1] (sp_kern_takes z.b xb z.pp (kcl z kt) kt.p y rfl rfl) s4 rfl fun r h5 s5=>?_
    obtain ⟨hr,s6⟩:=bt.1 s5
    subst hr
    unfold jz
    refine aY (fun d4=>?_) (fun d4=>?_)
    ·have ew:KK.work kt n y = KK.send (KK.clean (KK.tell kt n y) n) n y:=by unfold KK.work; rw [if_neg d2',if_pos ⟨d3',d4⟩]
     rw [ew] at okw ⊢
     refine uG (i:=1) s6 rfl (le_of_ble_eq_true rfl) fun h7 s7=>?_
     have s8:=call_in (y:={ y with fRa:=true }) hpx hnct zot.c (bb [1,2] s7 rfl)
     have s9:aB (nh z (KK.tell kt n y)) h7:=bb [1,1,1,1,1,1,1,0,0] s8 rfl
     have okl:KK.Ok (KK.tell kt n y):=kok_call okt n hyt (y:={ y with fRa:=true }) rfl rfl
     have hll:n < (KK.tell kt n y).calls.length:=by simpa [KK.tell] using hnct
     have zol:KZ.Ok z (KK.tell kt n y):=⟨zot.t,by simpa [KK.tell] using zot.c⟩
     refine cW [0,0,0,0,0,0,0,0,0] (sp_kern_clean z (KK.tell kt n y) n hll zol okl) s9 rfl fun r h10 s10=>?_
     have s11:=dE s10
     have hcc:(KK.clean (KK.tell kt n y) n).calls[n]? = some (some { y with fRa:=true }):=by simp [KK.clean,KK.tell,hnct]
     have okc:=kok_clean okl n
     have zoc:KZ.Ok z (KK.clean (KK.tell kt n y) n):=⟨by simpa [KK.clean] using zol.t,zol.c⟩
     have hepc:((KK.clean (KK.tell kt n y) n).fGa.1.length:Int) + 1 <= kt.now:=hept
     have hbx:=okc.bx
     have htl:(KK.clean (KK.tell kt n y) n).calls = kt.calls.set n (some { y with fRa:=true }):=rfl
     have hnow:(KK.clean (KK.tell kt n y) n).now = kt.now:=rfl
     generalize KK.clean (KK.tell kt n y) n = kc at *
     have hncc:n < kc.calls.length:=by rw [htl]; simpa using hnct
     refine bp z.pe s11 (i:=0) rfl rfl rfl ?_
     refine bS (sp_epoch_Begin z.pe kc.fGa n (by omega)) (i:=5) rfl s11 fun r h12 hr s12=>?_
     subst hr
     obtain ⟨xb',hp',s13⟩:=call_out hpx hcc (bb [7] s12 rfl)
     cases hp'
     refine uG (i:=0) s13 rfl (le_of_ble_eq_true rfl) fun h14 s14=>?_
     have s15:=call_in (y:={ y with fRa:=true,fCb:=(fNa.begin_ kc.fGa n).1.1 }) hpx hncc zoc.c s14
     refine bp z.pm s15 (i:=1) rfl rfl rfl ?_
     have hxe:(kc.calls.set n (some { y with fRa:=true,fCb:=(fNa.begin_ kc.fGa n).1.1 }))[n]? = some (some { y with fRa:=true,fCb:=(fNa.begin_ kc.fGa n).1.1 }):=by simp [hncc]
     refine ld_c1 (j:=0) (fNa.begin_ kc.fGa n).1.1 s15 rfl hpx hxe rfl rfl ?_
     have he:fNa.is kc.fGa n = true:=by
      unfold fNa.is
      have:=okc.el
      have:=okc.cl
      exact decide_eq_true (by omega)
     have eb:(fNa.begin_ kc.fGa n).1.1 = (kc.fGa.1.length:Int) + 1:=by unfold fNa.begin_; rw [if_pos he]
     refine bS (sp_mail_All z.pm kc.fLa n (fNa.begin_ kc.fGa n).1.1 ?_) (i:=5) rfl s15 fun r h16 hr s16=>?_
     ·intro l hl
      rw [eb]
      exact box_fit (hbx l hl) (by omega)
     ·refine aZ rfl (nX (k:=KK.send kc n y) ⟨zoc.t,by simpa [KK.send] using zoc.c⟩ okw (bb [1,1,1,1,1,1,1,0,0] s16 rfl))
    ·have hno:(y.fRa = false/\KK.takes kt.p y = true) = False:=by simp [d4]
     have s8:=call_in (y:=y) hpx hnct zot.c (bb [1,2] s6 rfl)
     rw [jm hxt] at s8
     have s9:aB (nh z kt) h5:=bb [1,1,1,1,1,1,1,0,0] s8 rfl
     refine ld_c1 (j:=7) y.fRa s9 rfl hpx hxt rfl rfl ?_
     refine dO d3' ?_
     exact j2 false hno (by rw [d3']; rfl) _ s9
   ·have d3':y.fRa = true:=by simpa using d3
    unfold jz
    refine dO rfl ?_
    refine ld_c1 (j:=7) y.fRa s3 rfl hpx hxt rfl rfl ?_
    refine eD d3' ?_
    refine bp z.pe s3 (i:=0) rfl rfl rfl ?_
    refine ld_c1 (j:=7) y.fCb s3 rfl hpx hxt rfl rfl ?_
    refine bS (sp_epoch_Done z.pe kt.fGa y.fCb) (i:=5) rfl s3 fun r h4 hr s4=>?_
    subst hr
    exact j2 _ (by simp [d3']) (by rw [d3']; rfl) _ s4
theorem sp_kern_Post (x:Ptr) (k:KK) (c:Int) (hn:k.now < 2 ^ 37):Sp prog mQ [pv x,.int .i64 c] aC [dl x k] (fun r=>pa_ (r = (KK.post k c).1) [dl x (KK.post k c).2]):=by
 intro h s0
 refine sim_kern_Kern_Post _ _ ?_
 unfold vj
 refine bS (tE x k c) (i:=0) rfl s0 fun r h1 hr s1=>?_
 subst hr
 refine aY (fun d=>?_) (fun d=>?_)
 ·have e1:KK.post k c = (false,k):=if_pos (by simpa using d)
  rw [e1]; exact aZ rfl s1
 ·have d':KK.is k c = true:=by simpa using d
  obtain ⟨z,rfl,zo,ok,st⟩:=tc s1
  have okp:=kok_post ok (by omega) c
  obtain ⟨n,rfl,hnc⟩:=is_nat d'
  refine cL (bp z.pm st (i:=0) rfl rfl rfl ?_)
  refine bS (sp_mail_Take z.pm k.fLa n) (i:=4) rfl st fun r h2 hr s2=>?_
  subst hr
  refine aY (fun d2=>?_) (fun d2=>?_)
  ·have d2':(Mail.take k.fLa n).1.2 = false:=by simpa using d2
   have e1:KK.post k n = (false,k):=by unfold KK.post; rw [if_neg (by simp [d']),if_pos d2']
   have e2:(Mail.take k.fLa n).2 = k.fLa:=by
    unfold Mail.take at d2' ⊢; split
    ·rfl
    ·rename_i hh; rw [if_neg hh] at d2'; cases d2'
   rw [e1]
   rw [e2] at s2
   exact aZ rfl (nX zo ok s2)
  ·have e1:KK.post k n = (true,{ KK.clean { KK.tick k with fLa:=(Mail.take k.fLa n).2 } n with fGa:=(fNa.ack k.fGa n (Mail.take k.fLa n).1.1).2 }):=by
    unfold KK.post; rw [if_neg (by simp [d']),if_neg (by simpa using d2)]
   rw [e1] at okp ⊢
   refine bp k.now s2 (i:=0) rfl rfl rfl ?_
   refine uG (i:=0) s2 rfl (le_of_ble_eq_true rfl) fun h3 s3=>?_
   have s4:aB (nh z { KK.tick k with fLa:=(Mail.take k.fLa n).2 }) h3:=s3
   have okt:=kok_tick ok (by omega)
   have hbl:(Mail.take k.fLa n).2.length = k.fLa.length:=by unfold Mail.take; split <;> simp
   have hb:∀ l ∈ (Mail.take k.fLa n).2,ni k.fGa.1.length l:=by
    unfold Mail.take; split
    ·exact ok.bx
    ·exact boxes_set ok.bx _ (box_drop (box_of ok.bx n))
   have ok2:KK.Ok { KK.tick k with fLa:=(Mail.take k.fLa n).2 }:=⟨okt.p,okt.tl,by simp only [hbl]; exact ok.bl,okt.el,okt.cl,okt.cs,okt.n0,okt.evn,okt.epn,hb⟩
   refine cW [0,0,0,0,0,0,0,0,0] (sp_kern_clean z { KK.tick k with fLa:=(Mail.take k.fLa n).2 } n hnc ⟨zo.t,zo.c⟩ ok2) s4 rfl fun r h5 s5=>?_
   have s6:=dE s5
   refine bp z.pe s6 (i:=0) rfl rfl rfl ?_
   refine bS (sp_epoch_Ack z.pe k.fGa n _) (i:=5) rfl s6 fun r h7 hr s7=>?_
   refine aZ rfl (nX (z:=z) ⟨?_,zo.c⟩ okp s7)
   simpa [KK.clean,KK.tick] using zo.t
theorem sp_kern_Mail (x:Ptr) (k:KK) (c:Int):Sp prog qU [pv x,.int .i64 c] eF [dl x k] (fun r=>pa_ (r = KK.mail k c) [dl x k]):=by
 intro h s0
 refine sim_kern_Kern_Mail _ _ ?_
 unfold vm
 refine bS (tE x k c) (i:=0) rfl s0 fun r h1 hr s1=>?_
 subst hr
 refine aY (fun d=>?_) (fun d=>?_)
 ·exact aZ (by unfold KK.mail; rw [if_neg (by simpa using d)]) s1
 ·obtain ⟨z,rfl,zo,ok,st⟩:=tc s1
  refine cL (bp z.pm st (i:=0) rfl rfl rfl ?_)
  refine bS (sp_mail_Waits z.pm k.fLa c) (i:=4) rfl st fun r h2 hr s2=>?_
  exact aZ (by unfold KK.mail; rw [if_pos (by simpa using d),hr]) (nX zo ok s2)
theorem sp_slices_CloneE (s:Sl) (xs:List bu) (hb:xs.length < 2 ^ 38):Sp prog ft [sv s] eN [vE s xs] (fun r=>aB [vE r xs,vE s xs]):=by
 intro h s0
 refine nj _ ?_
 unfold il
 refine aY (fun k=>?_) (fun k=>?_)
 ·have hn:xs = []:=by
   obtain ⟨_,⟨e1,e2,e3⟩,_⟩:=dV (i:=0) rfl s0
   rcases e3 with e3 | ⟨b,pre,rest,U,fr,h4,_⟩
   ·exact List.eq_nil_of_length_eq_zero (by omega)
   ·rw [h4] at k; cases k
  subst hn
  exact fX s0
 ·refine fP (τ:=bu) [] (val:=fun x=>.agg x.C.toArray) (enc:=aA.C) rh kM (fun _=>rfl) s0 rfl rfl (by simp) fun y h' s1=>?_
  refine uB (τ:=bu) (i:=0) (j:=1) (enc:=aA.C) (xs:=[]) (ys:=xs) rh rh.sl kM ev_one s1 rfl rfl (by omega) (by simp; omega) (by simp; omega) fun v h2 s2=>?_
  exact s2
theorem tF (x:Ptr) (k:KK) (hb:k.now < 2 ^ 38):Sp prog gf [pv x] eN [dl x k] (fun r=>aB [vE r k.events,dl x k]):=by
 intro h s0
 obtain ⟨z,rfl,zo,ok,st⟩:=tc s0
 have:=ok.evn
 refine sim_kern_Kern_Events _ ?_
 unfold sG
 refine dO rfl (cL (bp z.es st (i:=0) rfl rfl rfl ?_))
 refine xt (sp_slices_CloneE z.es k.events (by omega)) (i:=8) rfl st fun r h1 s1=>?_
 exact star_tail s1 fun h2 s2=>nX zo ok s2
end
section
open Go Mb
def fA (a0:Ptr) (Rec7:(Bool × Int)->Hp->Prop) (s6:Bool × Int) (s11:Unit):Hp->Prop:=cl prog gg [(pv a0),(.int .i64 s6.2)] aC fun r37=>cl prog gg [(pv a0),(.int .i64 s6.2)] aC fun r43=>br r43 ( cl prog mP [(pv a0),(.int .i64 s6.2)] aC fun r46=>Rec7 ((r37 || s6.1),(i64.wrap (s6.2 + 1)))) ( Rec7 ((r37 || s6.1),(i64.wrap (s6.2 + 1))))
def gJ (a0:Ptr) (Rec7:(Bool × Int)->Hp->Prop) (s6:Bool × Int) (Rec20:Int->Hp->Prop) (s19:Int):Hp->Prop:=br (decide (s19 < 5000)) ( cl prog qU [(pv a0),(.int .i64 s6.2)] eF fun r27=>br (decide (r27 > 0)) ( cl prog mQ [(pv a0),(.int .i64 s6.2)] aC fun r34=>Rec20 (i64.wrap (s19 + 1))) ( fA a0 Rec7 s6 ())) ( fA a0 Rec7 s6 ())
def gK (a0:Ptr) (a1:Int) (K:Bool->Hp->Prop) (Rec2:Int->Hp->Prop) (s1:Int) (Rec7:(Bool × Int)->Hp->Prop) (s6:Bool × Int):Hp->Prop:=br (decide (s6.2 < a1)) ( Lp (gJ a0 Rec7 s6) 0) ( br (!s6.1) ( K true) ( Rec2 (i64.wrap (s1 + 1))))
def gI (a0:Ptr) (a1:Int) (K:Bool->Hp->Prop) (Rec34:Int->Hp->Prop) (s33:Int):Hp->Prop:=br (decide (s33 < a1)) ( cl prog gg [(pv a0),(.int .i64 s33)] aC fun r56=>br r56 ( K false) ( Rec34 (i64.wrap (s33 + 1)))) ( K true)
def ka (a0:Ptr) (a1:Int) (a2:Int) (K:Bool->Hp->Prop) (Rec2:Int->Hp->Prop) (s1:Int):Hp->Prop:=br (decide (s1 < a2)) ( Lp (gK a0 a1 K Rec2 s1) (false,0)) ( Lp (gI a0 a1 K) 0)
def oI (a0:Ptr) (a1:Int) (a2:Int) (K:Bool->Hp->Prop):Hp->Prop:=Lp (ka a0 a1 a2 K) 0
theorem wb (a0:Ptr) (a1:Int) (a2:Int) {K:Bool->Hp->Prop} {h:Hp} (H:oI a0 a1 a2 K h):cl prog ig [(pv a0),(.int .i64 a1),(.int .i64 a2)] aC K h:=z_i func29 p p fun _=>O<|U p<|am<|O<|U p<|aw<|bz (step:=ka a0 a1 a2 K) (fun s1=>[(0,(pv a0)),(1,(.int .i64 a1)),(2,(.int .i64 a2)),(7,(.int .i64 s1))]) (fun s1=>[]) H (.cons p<|.cons p<|.cons p<|.cons p<|.nil _) .slnil fun Rec2 s1 _ H3=>am<|O<|M p<|M p<|J (cj p p)<|ae<|ax p H3 (fun k4 H5=>ap<|am<|aw<|O<|U p<|am<|O<|U p<|aw<|bz (step:=gK a0 a1 K Rec2 s1) (fun s6=>[(0,(pv a0)),(1,(.int .i64 a1)),(2,(.int .i64 a2)),(7,(.int .i64 s1)),(8,(.bool s6.1)),(9,(.int .i64 s6.2))]) (fun s6=>[]) H5 (.cons p<|.cons p<|.cons p<|.cons p<|.cons p<|.cons p<|.nil _) .slnil fun Rec7 s6 _ H8=>am<|O<|M p<|M p<|J (cj p p)<|ae<|ax p H8 (fun k9 H10=>ap<|am<|aw<|eC (fA a0 Rec7 s6) (fun s11=>[(0,(pv a0)),(1,(.int .i64 a1)),(2,(.int .i64 a2)),(7,(.int .i64 s1)),(8,(.bool s6.1)),(9,(.int .i64 s6.2))]) (fun s11=>[]) (O<|U p<|aw<|bz (step:=gJ a0 Rec7 s6) (fun s19=>[(0,(pv a0)),(1,(.int .i64 a1)),(2,(.int .i64 a2)),(7,(.int .i64 s1)),(8,(.bool s6.1)),(9,(.int .i64 s6.2)),(10,(.int .i64 s19))]) (fun s19=>[]) H10 (.cons p<|.cons p<|.cons p<|.cons p<|.cons p<|.cons p<|.cons p<|.nil _) .slnil fun Rec20 s19 _ H21=>am<|O<|M p<|J (cj p p)<|M p<|W p p (ay _) (fun g22=>wv<|ai p)<|W p p (ay _) (fun g23=>wv<|ai p)<|bU H21 (fun k25 H26=>G (F k25)<|gw H26 en_73 (aU (aG p k25)<|aU (aG p k25) bX) p fun r27 _ H27=>G (F k25)<|z_p (oZ p p)<|J (aS p k25 p)<|ae<|ax p H27 (fun k28 H29=>ap<|am<|aw<|aq<|M p<|M p<|aa<|D H29 en_46 fun r34 _ H30=>ae<|aq<|M p<|J (bk p p)<|U p<|cF (i64.wrap (s19 + 1)) H30 (.cons p<|.cons p<|.cons p<|.cons p<|.cons p<|.cons p<|.cons p<|.nil _) .slnil) fun k28 H29=>bh<|cE () H29 (.cons p<|.cons p<|.cons p<|.cons p<|.cons p<|.cons p<|.nil _) .slnil) fun k25 H26=>Y (aT k25)<|Y (aT k25)<|J (au p k25 p)<|ae<|xm p p<|bh<|cE () H26 (.cons p<|.cons p<|.cons p<|.cons p<|.cons p<|.cons p<|.nil _) .slnil) fun s11 _ H12=>O<|M p<|M p<|aa<|D H12 en_31 fun r37 _ H13=>M p<|W p p (aL _) (fun g14=>wv<|ai p)<|J (dy p p)<|U p<|O<|M p<|M p<|aa<|D H13 en_31 fun r43 _ H15=>ae<|ax p H15 (fun k16 H17=>aq<|M p<|M p<|aa<|D H17 en_28 fun r46 _ H18=>ae<|aq<|M p<|J (bk p p)<|U p<|cF ((r37 || s6.1),(i64.wrap (s6.2 + 1))) H18 (.cons p<|.cons p<|.cons p<|.cons p<|.cons p<|.cons p<|.nil _) .slnil) fun k16 H17=>ap<|aq<|M p<|J (bk p p)<|U p<|cF ((r37 || s6.1),(i64.wrap (s6.2 + 1))) H17 (.cons p<|.cons p<|.cons p<|.cons p<|.cons p<|.cons p<|.nil _) .slnil) fun k9 H10=>bh<|O<|M p<|J (cy p)<|ae<|ax p H10 (fun k31 H32=>O<|U p<|aj<|Z ⟨true,p,H32⟩) fun k31 H32=>ap<|aq<|M p<|J (bk p p)<|U p<|cF (i64.wrap (s1 + 1)) H32 (.cons p<|.cons p<|.cons p<|.cons p<|.nil _) .slnil) fun k4 H5=>bh<|am<|O<|U p<|aw<|bz (step:=gI a0 a1 K) (fun s33=>[(0,(pv a0)),(1,(.int .i64 a1)),(11,(.int .i64 s33))]) (fun s33=>[]) H5 (.cons p<|.cons p<|.cons p<|.nil _) .slnil fun Rec34 s33 _ H35=>am<|O<|M p<|M p<|J (cj p p)<|ae<|ax p H35 (fun k36 H37=>ap<|am<|aw<|O<|M p<|M p<|aa<|D H37 en_31 fun r56 _ H38=>ae<|ax p H38 (fun k39 H40=>O<|U p<|aj<|Z ⟨false,p,H40⟩) fun k39 H40=>ap<|aq<|M p<|J (bk p p)<|U p<|cF (i64.wrap (s33 + 1)) H40 (.cons p<|.cons p<|.cons p<|.nil _) .slnil) fun k36 H37=>bh<|O<|U p<|aj<|Z ⟨true,p,H37⟩
def gB (a1:Int) (K:(ad × Bool)->Hp->Prop) (r24:Sl) (Rec9:(Int × ad)->Hp->Prop) (s8:Int × ad):Hp->Prop:=br (decide (s8.1 >= 0)) ( ix r24 s8.1 fun q34=>ld (q34.1,q34.2 + Int.toNat s8.1 * 16 + 0) (cI .i64) fun x36=>br (x36 == a1) ( both ( ld (q34.1,q34.2 + Int.toNat s8.1 * 16 + 10) ad.C fun x43=>ld (q34.1,q34.2 + Int.toNat s8.1 * 16 + 9) (cI .i64) fun x48=>K (x43,(decide (x48 > 0)))) ( ld (q34.1,q34.2 + Int.toNat s8.1 * 16 + 9) (cI .i64) fun x48=>ld (q34.1,q34.2 + Int.toNat s8.1 * 16 + 10) ad.C fun x43=>K (x43,(decide (x48 > 0))))) ( Rec9 ((i64.wrap (s8.1 - 1)),s8.2))) ( K ((⟨0,0⟩:ad),false))
def rD (a0:Ptr) (a1:Int) (a2:Int) (a3:ak) (K:(ad × Bool)->Hp->Prop):Hp->Prop:=cl prog lH [(pv a0),(.int .i64 a1),(.int .i64 a2),(.agg (ak.C a3).toArray)] aC fun r16=>br (!r16) ( K ((⟨0,0⟩:ad),false)) ( cl prog ig [(pv a0),(.int .i64 8),(.int .i64 1000)] aC fun r20=>br (!r20) ( K ((⟨0,0⟩:ad),false)) ( cl prog gf [(pv a0)] eN fun r24=>Lp (gB a1 K r24) ((i64.wrap ((r24.len:Int) - 1)),(⟨0,0⟩:ad))))
theorem sim_messuagelaw16_Run (a0:Ptr) (a1:Int) (a2:Int) (a3:ak) {K:(ad × Bool)->Hp->Prop} {h:Hp} (H:rD a0 a1 a2 a3 K h):cl prog eR [(pv a0),(.int .i64 a1),(.int .i64 a2),(.agg (ak.C a3).toArray)] bo K h:=z_i func16 p p fun _=>O<|aa<|cD (l:=ak.C a3) p p p fun b7=>aa<|aO (l:=ad.C (⟨0,0⟩:ad)) dq p p fun b8=>U p<|am<|O<|M p<|M p<|M p<|bi (bH (k:=1) fH p p p p) p<|aa<|D H en_27 fun r16 _ H1=>J (cy p)<|ae<|ax p H1 (fun k2 H3=>O<|J (bd (vs:=[]) p uz)<|aa<|aQ (k:=0) (vs:=ad.C (⟨0,0⟩:ad)) bR p p p p p p p<|U p<|aj<|bD (bW p (bG (k:=0) p cO p p)<|cg p) ⟨((⟨0,0⟩:ad),false),p,H3⟩) fun k2 H3=>ap<|am<|O<|M p<|aa<|D H3 en_29 fun r20 _ H4=>J (cy p)<|ae<|ax p H4 (fun k5 H6=>O<|J (bd (vs:=[]) p uz)<|aa<|aQ (k:=0) (vs:=ad.C (⟨0,0⟩:ad)) bR p p p p p p p<|U p<|aj<|bD (bW p (bG (k:=0) p cO p p)<|cg p) ⟨((⟨0,0⟩:ad),false),p,H6⟩) fun k5 H6=>ap<|O<|M p<|aa<|D H6 en_20 fun r24 _ H7=>U p<|am<|O<|M p<|J (dA p underlying42 p)<|J (iT p p)<|U p<|aw<|bz (step:=gB a1 K r24) (fun s8=>[(1,(.int .i64 a1)),(8,(.pointer (some ⟨b8,0,none⟩))),(10,(sv r24)),(11,(.int .i64 s8.1))]) (fun s8=>[bx b8 30 (ad.C s8.2)]) H7 (.cons p<|.cons p<|.cons p<|.cons p<|.nil _) (.cons_cons _<|.cons _ .slnil) fun Rec9 s8 _ H10=>am<|O<|M p<|J (jF p p)<|ae<|ax p H10 (fun k11 H12=>ap<|am<|aw<|O<|M p<|M p<|cq H12 fun q34 e13 h14 H15=>J (be qK (aJ p<|aX e13) p h14)<|J (ah um p)<|aa<|aW H15 ba p (fun _=>p) p fun x36 H16=>M p<|J (bP p p)<|ae<|ax p H16 (fun k17 H18=>am<|bn (n:=13) [] ck p (.cons _ .slnil)<|V 0 p (ai p)<|V 1 p (ai p)<|V 2 p (be qK (aJ p<|aX e13) p h14)<|V 3 p (ah kU p)<|V 5 p (ai p)<|V 6 p (ai p)<|V 7 p (be qK (aJ p<|aX e13) p h14)<|V 8 p (ah nL p)<|ki H18 fun H19_1 H19_2=>kj (i:=4) (j:=9) (by kernel_rfl) (cQ p p<|hO H19_1 cO p (fun _=>p) p fun x43 H20=>⟨.cons _ .slnil,kj (i:=9) (j:=11) (by kernel_rfl) (cQ p p<|aW H20 ba p (fun _=>p) p fun x48 H22=>⟨.cons _ .slnil,V 10 p (oZ p p)<|I 11 p<|aQ (k:=0) (vs:=ad.C x43) bR p p p p p p p ⟨.cons _ .slnil,V 12 p (av p)<|aR (by kernel_rfl)<|aj<|bD (bW p (bG (k:=0) p cO p p)<|cg p) ⟨(x43,(decide (x48 > 0))),p,H22⟩⟩⟩)<|cQ p p<|aQ (k:=0) (vs:=ad.C x43) bR p p p p p p p ⟨.cons _ .slnil,bA (i:=9) (fun _ _ _ _ hh=>hh) H20 p (by kernel_rfl) ba p (fun _=>p) p fun x48 H22=>V 10 p (oZ p p)<|V 12 p (av p)<|aR (by kernel_rfl)<|aj<|bD (bW p (bG (k:=0) p cO p p)<|cg p) ⟨(x43,(decide (x48 > 0))),p,H22⟩⟩⟩)<|cQ p p<|aW H19_2 ba p (fun _=>p) p fun x48 H20=>⟨.cons _ .slnil,V 10 p (oZ p p)<|tf (i:=4) (fun _ _ _ _ hh=>hh) H20 p (by kernel_rfl) cO p (fun _=>p) p fun x43 H21=>I 11 p<|aQ (k:=0) (vs:=ad.C x43) bR p p p p p p p ⟨.cons _ .slnil,V 12 p (av p)<|aR (by kernel_rfl)<|aj<|bD (bW p (bG (k:=0) p cO p p)<|cg p) ⟨(x43,(decide (x48 > 0))),p,H21⟩⟩⟩) fun k17 H18=>ap<|aq<|M p<|J (iT p p)<|U p<|cF ((i64.wrap (s8.1 - 1)),s8.2) H18 (.cons p<|.cons p<|.cons p<|.cons p<|.nil _)<|.cons_cons _ .slnil) fun k11 H12=>bh<|O<|J (bd (vs:=[]) p uz)<|aa<|aQ (k:=0) (vs:=ad.C (⟨0,0⟩:ad)) bR p p p p p p p<|U p<|aj<|bD (bW p (bG (k:=0) p cO p p)<|cg p) ⟨((⟨0,0⟩:ad),false),p,H12⟩
def px (K:Bool->Hp->Prop):Hp->Prop:=cl prog ym [(.agg (aF.C (⟨2,2,3⟩:aF)).toArray)] tm fun r21=>br r21.isNone ( K false) ( cl prog eR [(pv r21),(.int .i64 0),(.int .i64 0),(.agg (ak.C (⟨1,1,0,0,0⟩:ak)).toArray)] bo fun r27=>cl prog eR [(pv r21),(.int .i64 0),(.int .i64 0),(.agg (ak.C (⟨6,4,1,3,0⟩:ak)).toArray)] bo fun r33=>cl prog eR [(pv r21),(.int .i64 1),(.int .i64 0),(.agg (ak.C (⟨21,4,2,9,0⟩:ak)).toArray)] bo fun r39=>cl prog eR [(pv r21),(.int .i64 0),(.int .i64 0),(.agg (ak.C (⟨20,4,2,0,0⟩:ak)).toArray)] bo fun r45=>cl prog eR [(pv r21),(.int .i64 0),(.int .i64 0),(.agg (ak.C (⟨7,4,0,0,0⟩:ak)).toArray)] bo fun r51=>cl prog gf [(pv r21)] eN fun r55=>cl prog pN [(sv r55),(.agg (aF.C (⟨2,2,3⟩:aF)).toArray)] bI fun r59=>cl prog pO [(sv r55),(.agg (aF.C (⟨2,2,3⟩:aF)).toArray)] bI fun r65=>cl prog wk [(.int .i64 2),(.int .i64 3)] iq fun r68=>cl prog lq [] aC fun r69=>br (((((((((((((((r69 && r27.2) && r33.2) && r39.2) && r45.2) && r51.2) && (r27.1.fWa == 0)) && (r33.1.fWa == 0)) && (r39.1.fWa == 0)) && (r45.1.fVal == 9)) && (r51.1.fWa == 0)) && ((r55.len:Int) == 5)) && (r59.1 == (-1))) && r59.2) && (r65.1 == (-1))) && r65.2) ( cl prog yn [(sv r55),(.agg (aF.C (⟨2,2,3⟩:aF)).toArray)] aC fun r132=>br r132 ( cl prog kI [(sv r55)] cC fun r136=>br (((r136.len:Int) == 5) && ((r68.len:Int) == 12)) ( cl prog n_fair_Fair [(sv r68),(.int .i64 2),(.int .i64 5)] aC fun r147=>br r147 ( cl prog n_twin_View [(sv r55),(.int .i64 0)] nQ fun r151=>br ((r151.len:Int) == 5) ( cl prog wj [(sv r55),(.agg (aF.C (⟨2,2,3⟩:aF)).toArray)] aC fun r158=>K r158) ( K false)) ( K false)) ( K false)) ( K false)) ( K false))
theorem wG {K:Bool->Hp->Prop} {h:Hp} (H:px K h):cl prog lj [] aC K h:=z_i func14 p p fun _=>O<|U p<|O<|J (bd p<|uA 2 2 3)<|aa<|aO (l:=aF.C (⟨0,0,0⟩:aF)) zero_25 p p fun b1=>aa<|aQ (k:=0) (vs:=aF.C (⟨2,2,3⟩:aF)) inf_25 p p p p p p p<|ae<|O<|bi (bH (k:=0) pZ p p p p) p<|aa<|D H en_23 fun r21 _ H1=>U p<|am<|O<|M p<|J (cA underlying26 p)<|ae<|ax p H1 (fun k2 H3=>O<|U p<|aj<|Z ⟨false,p,H3⟩) fun k2 H3=>ap<|O<|M p<|J (bd p<|mZ 1 1)<|aa<|D H3 en_16 fun r27 _ H4=>M p<|J (al p p)<|J (al p p)<|aa<|aO (l:=ad.C (⟨0,0⟩:ad)) dq p p fun b3=>aa<|aQ (k:=0) (vs:=ad.C r27.1) bR p p p p p p p<|U p<|O<|M p<|J (bd p<|km 6 4 1 3)<|aa<|D H4 en_16 fun r33 _ H5=>M p<|J (al p p)<|J (al p p)<|aa<|aO (l:=ad.C (⟨0,0⟩:ad)) dq p p fun b5=>aa<|aQ (k:=0) (vs:=ad.C r33.1) bR p p p p p p p<|U p<|O<|M p<|J (bd p<|km 21 4 2 9)<|aa<|D H5 en_16 fun r39 _ H6=>M p<|J (al p p)<|J (al p p)<|aa<|aO (l:=ad.C (⟨0,0⟩:ad)) dq p p fun b7=>aa<|aQ (k:=0) (vs:=ad.C r39.1) bR p p p p p p p<|U p<|O<|M p<|J (bd p<|uy 20 4 2)<|aa<|D H6 en_16 fun r45 _ H7=>M p<|J (al p p)<|J (al p p)<|aa<|aO (l:=ad.C (⟨0,0⟩:ad)) dq p p fun b9=>aa<|aQ (k:=0) (vs:=ad.C r45.1) bR p p p p p p p<|U p<|O<|M p<|J (bd p<|mZ 7 4)<|aa<|D H7 en_16 fun r51 _ H8=>M p<|J (al p p)<|J (al p p)<|aa<|aO (l:=ad.C (⟨0,0⟩:ad)) dq p p fun b11=>aa<|aQ (k:=0) (vs:=ad.C r51.1) bR p p p p p p p<|U p<|O<|M p<|aa<|D H8 en_20 fun r55 _ H9=>U p<|O<|M p<|bi (bH (k:=5) pZ p p p p) p<|aa<|D H9 en_47 fun r59 _ H10=>M p<|J (al p p)<|J (al p p)<|J (av p)<|U p<|O<|M p<|bi (bH (k:=5) pZ p p p p) p<|aa<|D H10 en_48 fun r65 _ H11=>M p<|J (al p p)<|J (al p p)<|J (av p)<|U p<|O<|aa<|D H11 en_49 fun r68 _ H12=>U p<|O<|aa<|D H12 en_50 fun r69 _ H13=>M p<|W p p (ay _) (fun g14=>wv<|ai p)<|J (bQ p p)<|M p<|W p p (ay _) (fun g15=>wv<|ai p)<|J (bQ p p)<|M p<|W p p (ay _) (fun g16=>wv<|ai p)<|J (bQ p p)<|M p<|W p p (ay _) (fun g17=>wv<|ai p)<|J (bQ p p)<|M p<|W p p (ay _) (fun g18=>wv<|ai p)<|J (bQ p p)<|M p<|W p p (ay _) (fun g19=>wv<|ah kV p)<|W p p (ay _) (fun g20=>cv<|bc (k:=4) pB (aG p g20) p p)<|W p p (ay _) (fun g21=>wv<|bP (aG p g21) p)<|J (bQ p p)<|M p<|W p p (ay _) (fun g22=>wv<|ah kV p)<|W p p (ay _) (fun g23=>cv<|bc (k:=3) pB (aG p g23) p p)<|W p p (ay _) (fun g24=>wv<|bP (aG p g24) p)<|J (bQ p p)<|M p<|W p p (ay _) (fun g25=>wv<|ah kV p)<|W p p (ay _) (fun g26=>cv<|bc (k:=2) pB (aG p g26) p p)<|W p p (ay _) (fun g27=>wv<|bP (aG p g27) p)<|J (bQ p p)<|M p<|W p p (ay _) (fun g28=>wv<|ah fld_30_1 p)<|W p p (ay _) (fun g29=>cv<|bc (k:=1) cG (aG p g29) p p)<|W p p (ay _) (fun g30=>wv<|bP (aG p g30) p)<|J (bQ p p)<|M p<|W p p (ay _) (fun g31=>wv<|ah kV p)<|W p p (ay _) (fun g32=>cv<|bc (k:=0) pB (aG p g32) p p)<|W p p (ay _) (fun g33=>wv<|bP (aG p g33) p)<|J (bQ p p)<|M p<|W p p (ay _) (fun g34=>wv<|ai p)<|W p p (ay _) (fun g35=>wv<|dA p underlying42<|aG p g35)<|W p p (ay _) (fun g36=>wv<|bP (aG p g36) p)<|J (bQ p p)<|M p<|W p p (ay _) (fun g37=>wv<|ai p)<|W p p (ay _) (fun g38=>wv<|bP (aG p g38) p)<|J (bQ p p)<|M p<|W p p (ay _) (fun g39=>wv<|ai p)<|J (bQ p p)<|M p<|W p p (ay _) (fun g40=>wv<|ai p)<|W p p (ay _) (fun g41=>wv<|bP (aG p g41) p)<|J (bQ p p)<|M p<|W p p (ay _) (fun g42=>wv<|ai p)<|J (bQ p p)<|M p<|W p p (ay _) (fun g43=>wv<|ai p)<|W p p (ay _) (fun g44=>cv<|bH (k:=5) pZ p p p p)<|bU H13 (fun k46 H47=>G (F k46)<|gw H47 en_25 (aU (aG p k46)<|aU (aG p k46) bX) p fun r132 _ H48=>J (aS p k46 p)<|M p<|W p p (ay _) (fun g49=>wv<|ai p)<|bU H48 (fun k51 H52=>G (F k51)<|gw H52 en_44 (aU (aG p k51) bX) p fun r136 _ H53=>G (F k51)<|z_p (dA p underlying39 p)<|G (F k51)<|z_p (bP p p)<|J (aS p k51 p)<|M p<|W p p (ay _) (fun g54=>wv<|ai p)<|W p p (ay _) (fun g55=>wv<|dA p underlying45<|aG p g55)<|W p p (ay _) (fun g56=>wv<|bP (aG p g56) p)<|J (bQ p p)<|M p<|W p p (ay _) (fun g57=>wv<|ai p)<|bU H53 (fun k59 H60=>G (F k59)<|gw H60 en_51 (aU (aG p k59)<|aU p<|aU p bX) p fun r147 _ H61=>J (aS p k59 p)<|M p<|W p p (ay _) (fun g62=>wv<|ai p)<|bU H61 (fun k64 H65=>G (F k64)<|gw H65 en_52 (aU (aG p k64)<|aU p bX) p fun r151 _ H66=>G (F k64)<|z_p (dA p underlying101 p)<|G (F k64)<|z_p (bP p p)<|J (aS p k64 p)<|M p<|W p p (ay _) (fun g67=>wv<|ai p)<|W p p (ay _) (fun g68=>cv<|bH (k:=5) pZ p p p p)<|bU H66 (fun k70 H71=>G (F k70)<|gw H71 en_19 (aU (aG p k70)<|aU (aG p k70) bX) p fun r158 _ H72=>J (aS p k70 p)<|U p<|aj<|Z ⟨r158,p,H72⟩) fun k70 H71=>Y (aT k70)<|J (au p k70 p)<|U p<|aj<|Z ⟨false,p,H71⟩) fun k64 H65=>Y (aT k64)<|Y (aT k64)<|Y (aT k64)<|J (au p k64 p)<|M p<|Y p<|Y p<|Y p<|J (au p p p)<|U p<|aj<|Z ⟨false,p,H65⟩) fun k59 H60=>Y (aT k59)<|J (au p k59 p)<|M p<|Y p<|Y p<|Y p<|Y p<|J (au p p p)<|M p<|Y p<|Y p<|Y p<|J (au p p p)<|U p<|aj<|Z ⟨false,p,H60⟩) fun k51 H52=>Y (aT k51)<|Y (aT k51)<|Y (aT k51)<|J (au p k51 p)<|M p<|Y p<|Y p<|Y p<|J (au p p p)<|M p<|Y p<|Y p<|J (au p p p)<|M p<|Y p<|Y p<|Y p<|Y p<|J (au p p p)<|M p<|Y p<|Y p<|Y p<|J (au p p p)<|U p<|aj<|Z ⟨false,p,H52⟩) fun k46 H47=>Y (aT k46)<|J (au p k46 p)<|M p<|Y p<|Y p<|Y p<|Y p<|J (au p p p)<|M p<|Y p<|Y p<|Y p<|J (au p p p)<|M p<|Y p<|Y p<|J (au p p p)<|M p<|Y p<|Y p<|Y p<|Y p<|J (au p p p)<|M p<|Y p<|Y p<|Y p<|J (au p p p)<|U p<|aj<|Z ⟨false,p,H47⟩
def rE (a0:Sl) (a1:Int) (K:Sl->Hp->Prop):Hp->Prop:=hpv prog (Instr.sliceAt lP (sv a0) none (some (.int .i64 (mn (a0.len:Int) a1))) none) iq fun (v10:Sl)=>K v10
theorem sim_messuagelaw16_Cut (a0:Sl) (a1:Int) {K:Sl->Hp->Prop} {h:Hp} (H:rE a0 a1 K h):cl prog ns [(sv a0),(.int .i64 a1)] iq K h:=z_i func22 p p fun _=>O<|U p<|O<|M p<|M p<|J (dA p underlying45 p)<|M p<|J (v_minT p p)<|aa<|aV H (ff p p p p p) p fun v10 _ H1=>U p<|aj<|Z ⟨v10,p,H1⟩
def sE (a0:Ptr) (a1:cx) (K:Bool->Hp->Prop):Hp->Prop:=br (a1.fEb == 1) ( cl prog lH [(pv a0),(.int .i64 a1.fOa),(.int .i64 a1.fCa),(.agg (ak.C a1.fIa).toArray)] aC fun r16=>K r16) ( br (a1.fEb == 2) ( cl prog mP [(pv a0),(.int .i64 a1.fOa)] aC fun r22=>K r22) ( br (a1.fEb == 3) ( cl prog mQ [(pv a0),(.int .i64 a1.fOa)] aC fun r28=>K r28) ( br (a1.fEb == 4) ( cl prog pM [(pv a0),(.int .i64 a1.fOa),(.int .i64 a1.fSet),(.int .i64 a1.fWay)] aC fun r40=>K r40) ( K false))))
theorem sim_messuagelaw16_Do (a0:Ptr) (a1:cx) {K:Bool->Hp->Prop} {h:Hp} (H:sE a0 a1 K h):cl prog oq [(pv a0),(.agg (cx.C a1).toArray)] aC K h:=z_i func24 p p fun _=>O<|aa<|cD (l:=cx.C a1) p p p fun b3=>U p<|am<|O<|J (ah fld_51_0 p)<|bi (bc (k:=0) ba p p p) p<|ae<|aw<|O<|J (bP p p)<|U p<|ax p H (fun k1 H2=>O<|M p<|J (ah fld_51_1 p)<|bi (bc (k:=0) ba p p p) p<|J (ah fld_51_2 p)<|bi (bc (k:=0) ba p p p) p<|J (ah fld_51_3 p)<|bi (bH (k:=0) fH p p p p) p<|aa<|D H2 en_27 fun r16 _ H3=>U p<|aj<|Z ⟨r16,p,H3⟩) fun k1 H2=>O<|J (bP p p)<|U p<|ax p H2 (fun k4 H5=>O<|M p<|J (ah fld_51_1 p)<|bi (bc (k:=0) ba p p p) p<|aa<|D H5 en_28 fun r22 _ H6=>U p<|aj<|Z ⟨r22,p,H6⟩) fun k4 H5=>O<|J (bP p p)<|U p<|ax p H5 (fun k7 H8=>O<|M p<|J (ah fld_51_1 p)<|bi (bc (k:=0) ba p p p) p<|aa<|D H8 en_46 fun r28 _ H9=>U p<|aj<|Z ⟨r28,p,H9⟩) fun k7 H8=>ap<|O<|J (ah fld_51_0 p)<|bi (bc (k:=0) ba p p p) p<|J (bP p p)<|M p<|W p p (ay _) (fun g10=>wv<|ai p)<|W p p (ay _) (fun g11=>wv<|ah fld_51_1 p)<|W p p (ay _) (fun g12=>cv<|bc (k:=0) ba (aG p g12) p p)<|W p p (ay _) (fun g13=>wv<|ah fld_51_4 p)<|W p p (ay _) (fun g14=>cv<|bc (k:=0) ba (aG p g14) p p)<|W p p (ay _) (fun g15=>wv<|ah fld_51_5 p)<|W p p (ay _) (fun g16=>cv<|bc (k:=0) ba (aG p g16) p p)<|bU H8 (fun k18 H19=>G (F k18)<|gw H19 en_60 (aU (aG p k18)<|aU (aG p k18)<|aU (aG p k18)<|aU (aG p k18) bX) p fun r40 _ H20=>J (aS p k18 p)<|U p<|aj<|Z ⟨r40,p,H20⟩) fun k18 H19=>Y (aT k18)<|J (au p k18 p)<|U p<|aj<|Z ⟨false,p,H19⟩
def iY (K:Bool->Hp->Prop) (r40:Sl) (v41:(Option Nat)) (Rec30:Int->Hp->Prop) (s29:Int) (Rec35:Int->Hp->Prop) (s34:Int):Hp->Prop:=br (decide (s34 < (r40.len:Int))) ( hpv prog (Instr.lookup eL (.map v41) (.int .i64 s29) true) bI fun (v67:Int × Bool)=>hpv prog (Instr.lookup eL (.map v41) (.int .i64 s34) true) bI fun (v73:Int × Bool)=>ix r40 s29 fun q78=>ix r40 s34 fun q82=>ld (q78.1,q78.2 + Int.toNat s29 * 16) aA.C fun x79=>ld (q82.1,q82.2 + Int.toNat s34 * 16) aA.C fun x83=>br (pF x79 x83) ( br (!v67.2) ( K false) ( br v73.2 ( br (decide (v67.1 >= v73.1)) ( K false) ( Rec35 (i64.wrap (s34 + 1)))) ( Rec35 (i64.wrap (s34 + 1))))) ( Rec35 (i64.wrap (s34 + 1)))) ( Rec30 (i64.wrap (s29 + 1)))
def iZ (K:Bool->Hp->Prop) (r40:Sl) (v41:(Option Nat)) (Rec30:Int->Hp->Prop) (s29:Int):Hp->Prop:=br (decide (s29 < (r40.len:Int))) ( Lp (iY K r40 v41 Rec30 s29) 0) ( K true)
def ja (K:Bool->Hp->Prop) (r40:Sl) (v41:(Option Nat)) (r43:Sl) (Rec20:Int->Hp->Prop) (s19:Int):Hp->Prop:=br (decide (s19 < (r43.len:Int))) ( ix r43 s19 fun q48=>ld (q48.1,q48.2 + Int.toNat s19 * 1) (cI .i64) fun x49=>hpu prog (Instr.mapUpdate eL (.map v41) (.int .i64 x49) (.int .i64 s19))<|Rec20 (i64.wrap (s19 + 1))) ( Lp (iZ K r40 v41) 0)
def jd (K:Bool->Hp->Prop) (r24:Sl) (r26:Ptr) (Rec7:Int->Hp->Prop) (s6:Int):Hp->Prop:=br (decide (s6 < (r24.len:Int))) ( ix r24 s6 fun q35=>ld (q35.1,q35.2 + Int.toNat s6 * 10) cx.C fun x36=>cl prog oq [(pv r26),(.agg (cx.C x36).toArray)] aC fun r37=>Rec7 (i64.wrap (s6 + 1))) ( cl prog gf [(pv r26)] eN fun r40=>hpv prog (Instr.makeMap eL none) R_map_int_int fun (v41:(Option Nat))=>cl prog kI [(sv r40)] cC fun r43=>Lp (ja K r40 v41 r43) 0)
def nc (a0:aF) (a1:Sl) (K:Bool->Hp->Prop):Hp->Prop:=cl prog lj [] aC fun r18=>br (!r18) ( K false) ( cl prog ns [(sv a1),(.int .i64 200)] iq fun r24=>cl prog ym [(.agg (aF.C (cK a0)).toArray)] tm fun r26=>Lp (jd K r24 r26) 0)
theorem tJ (a0:aF) (a1:Sl) {K:Bool->Hp->Prop} {h:Hp} (H:nc a0 a1 K h):cl prog nK [(.agg (aF.C a0).toArray),(sv a1)] aC K h:=z_i func12 p p fun _=>O<|aa<|cD (l:=aF.C a0) p p p fun b2=>U p<|O<|aa<|D H en_14 fun r18 _ H1=>U p<|am<|O<|M p<|J (cy p)<|ae<|ax p H1 (fun k2 H3=>O<|U p<|aj<|Z ⟨false,p,H3⟩) fun k2 H3=>ap<|O<|bi (bH (k:=0) pZ p p p p) p<|aa<|cH (vs:=[(.agg (aF.C a0).toArray)]) (bv<|ct_messuagelaw16_Size a0 _) en_21 p p<|M p<|aa<|D H3 en_22 fun r24 _ H4=>aa<|aQ (k:=0) (vs:=aF.C<|cK a0) inf_25 p p p p p p p<|U p<|O<|bi (bH (k:=0) pZ p p p p) p<|aa<|D H4 en_23 fun r26 _ H5=>U p<|am<|O<|M p<|J (dA p underlying45 p)<|M p<|ae<|aw<|bz (step:=jd K r24 r26) (fun s6=>[(1,(sv r24)),(6,(pv r26)),(28,(.int .i64 (r24.len:Int))),(29,(.int .i64 s6))]) (fun s6=>[]) H5 (.cons p<|.cons p<|.cons p<|.cons p<|.nil _) (.cons _ .slnil) fun Rec7 s6 _ H8=>O<|J (cj p p)<|ae<|am<|ax p H8 (fun k9 H10=>ap<|am<|aw<|O<|M p<|U p<|aq<|M p<|M p<|M p<|cq H10 fun q35 e11 h12 H13=>J (be slc_45 (aJ p<|aX e11) p h12)<|aa<|hO H13 ag_51 p (fun _=>p) p fun x36 H14=>aa<|D H14 en_24 fun r37 _ H15=>ae<|aq<|J (bk p p)<|M p<|ae<|cF (i64.wrap (s6 + 1)) H15 (.cons p<|.cons p<|.cons p<|.cons p<|.nil _) .slnil) fun k9 H10=>bh<|O<|M p<|aa<|D H10 en_20 fun r40 _ H16=>U p<|O<|aa<|aV H16 x_makeMap0 p fun v41 _ H17=>U p<|am<|O<|M p<|aa<|D H17 en_44 fun r43 _ H18=>J (dA p underlying39 p)<|M p<|ae<|aw<|bz (step:=ja K r40 v41 r43) (fun s19=>[(8,(sv r40)),(9,(.map v41)),(43,(sv r43)),(44,(.int .i64 (r43.len:Int))),(45,(.int .i64 s19))]) (fun s19=>[]) H18 (.cons p<|.cons p<|.cons p<|.cons p<|.cons p<|.nil _) .slnil fun Rec20 s19 _ H21=>O<|J (cj p p)<|ae<|am<|ax p H21 (fun k22 H23=>ap<|am<|aw<|O<|M p<|cq H23 fun q48 e24 h25 H26=>J (be dF (aJ p<|aX e24) p h25)<|aa<|aW H26 ba p (fun _=>p) p fun x49 H27=>J (av p)<|U p<|aq<|M p<|M p<|M p<|aa<|to_hpu H27 (ro p p p) fun _ H28=>ae<|aq<|J (bk p p)<|M p<|ae<|cF (i64.wrap (s19 + 1)) H28 (.cons p<|.cons p<|.cons p<|.cons p<|.cons p<|.nil _) .slnil) fun k22 H23=>bh<|am<|O<|M p<|J (dA p underlying42 p)<|M p<|ae<|aw<|bz (step:=iZ K r40 v41) (fun s29=>[(8,(sv r40)),(9,(.map v41)),(55,(.int .i64 (r40.len:Int))),(56,(.int .i64 s29))]) (fun s29=>[]) H23 (.cons p<|.cons p<|.cons p<|.cons p<|.nil _) .slnil fun Rec30 s29 _ H31=>O<|J (cj p p)<|ae<|am<|ax p H31 (fun k32 H33=>ap<|am<|aw<|O<|M p<|U p<|O<|M p<|J (dA p underlying42 p)<|M p<|ae<|aw<|bz (step:=iY K r40 v41 Rec30 s29) (fun s34=>[(8,(sv r40)),(9,(.map v41)),(12,(.int .i64 s29)),(55,(.int .i64 (r40.len:Int))),(56,(.int .i64 s29)),(60,(.int .i64 (r40.len:Int))),(61,(.int .i64 s34))]) (fun s34=>[]) H33 (.cons p<|.cons p<|.cons p<|.cons p<|.cons p<|.cons p<|.cons p<|.nil _) .slnil fun Rec35 s34 _ H36=>O<|J (cj p p)<|ae<|am<|ax p H36 (fun k37 H38=>ap<|am<|aw<|O<|M p<|U p<|O<|M p<|M p<|aa<|aV H38 (x_lookup p p) p fun v67 _ H39=>M p<|J (al p p)<|J (al p p)<|J (av p)<|U p<|O<|M p<|M p<|aa<|aV H39 (x_lookup p p) p fun v73 _ H40=>M p<|J (al p p)<|J (al p p)<|J (av p)<|U p<|am<|bn (n:=21) [] ck p .slnil<|V 0 p (ai p)<|V 1 p (ai p)<|V 4 p (ai p)<|V 5 p (ai p)<|dJ H40 fun q78 e41 h42 H43=>V 2 p (be qK (aJ p<|aX e41) p h42)<|dJ H43 fun q82 e44 h45 H46=>V 6 p (be qK (aJ p<|aX e44) p h45)<|tf (i:=3) (fun _ _ _ _ hh=>hh) H46 p (by kernel_rfl) ag_56 p (fun _=>p) p fun x79 H47=>tf (i:=7) (fun _ _ _ _ hh=>hh) H47 p (by kernel_rfl) ag_56 p (fun _=>p) p fun x83 H48=>I 8 p<|cH (vs:=[(.agg (aA.C x79).toArray),(.agg (aA.C x83).toArray)]) (bv<|ct_hist_Before x79 x83 _) en_45 p p ⟨.slnil,V 9 p (ai p)<|nt H48 (fun k49 H50=>z_n 10 p (F k49) (ve<|ai p)<|z_n 11 p (F k49) (ve<|cy p)<|z_n 12 p (F k49) (ve<|ai p)<|nt H50 (fun k51 H52=>z_f 13 p (bL k51)<|z_f 14 p (bL k51)<|z_f 15 p (oJ _)<|z_f 16 p (oJ _)<|z_f 17 p (oJ _)<|z_f 18 p (bL k51)<|z_n 19 p (F k49) (ve<|aS p k51 p)<|V 20 p (aS p k49 p)<|aR (by kernel_rfl)<|kL p p<|O<|U p<|aj<|Z ⟨false,p,H52⟩) fun k51 H52=>z_n 13 p (F k51) (ve<|ai p)<|z_n 14 p (F k51) (ve<|ai p)<|nt H52 (fun k53 H54=>z_n 15 p (F k53) (ve<|ai p)<|z_n 16 p (F k53) (ve<|ai p)<|z_n 17 p (F k53) (ve<|jF p p)<|z_n 18 p (F k51) (ve<|aS p k53 p)<|z_n 19 p (F k49) (ve<|au p k51 p)<|V 20 p (aS p k49 p)<|aR (by kernel_rfl)<|ax p H54 (fun k55 H56=>O<|U p<|aj<|Z ⟨false,p,H56⟩) fun k55 H56=>ap<|aq<|J (bk p p)<|M p<|ae<|cF (i64.wrap (s34 + 1)) H56 (.cons p<|.cons p<|.cons p<|.cons p<|.cons p<|.cons p<|.cons p<|.nil _) .slnil) fun k53 H54=>z_f 15 p (aT k53)<|z_f 16 p (aT k53)<|z_f 17 p (aT k53)<|z_n 18 p (F k51) (ve<|au p k53 p)<|z_n 19 p (F k49) (ve<|au p k51 p)<|V 20 p (aS p k49 p)<|aR (by kernel_rfl)<|xm p p<|ap<|aq<|J (bk p p)<|M p<|ae<|cF (i64.wrap (s34 + 1)) H54 (.cons p<|.cons p<|.cons p<|.cons p<|.cons p<|.cons p<|.cons p<|.nil _) .slnil) fun k49 H50=>z_f 10 p (aT k49)<|z_f 11 p (aT k49)<|z_f 12 p (aT k49)<|z_f 13 p (oJ _)<|z_f 14 p (oJ _)<|z_f 15 p (oJ _)<|z_f 16 p (oJ _)<|z_f 17 p (oJ _)<|z_f 18 p (oJ _)<|z_f 19 p (aT k49)<|V 20 p (au p k49 p)<|aR (by kernel_rfl)<|xm p p<|ap<|aq<|J (bk p p)<|M p<|ae<|cF (i64.wrap (s34 + 1)) H50 (.cons p<|.cons p<|.cons p<|.cons p<|.cons p<|.cons p<|.cons p<|.nil _) .slnil⟩) fun k37 H38=>bh<|aq<|J (bk p p)<|M p<|ae<|cF (i64.wrap (s29 + 1)) H38 (.cons p<|.cons p<|.cons p<|.cons p<|.nil _) .slnil) fun k32 H33=>bh<|O<|U p<|aj<|Z ⟨true,p,H33⟩
end
section
open Go Mb
namespace KK
def drain (c:Int):Nat->KK->KK
 | 0,k=>k
 | n + 1,k=>if 0 < mail k c then drain c n (post k c).2 else k
def turn1 (k:KK) (c:Int):KK × Bool:=if busy (drain c 5000 k) c = true then ((step (drain c 5000 k) c).2,true) else (drain c 5000 k,false)
def sweep:Nat->Int->KK->Bool->KK × Bool
 | 0,_,k,b=>(k,b)
 | n + 1,c,k,b=>sweep n (c + 1) (turn1 k c).1 ((turn1 k c).2 || b)
def anyBusy (k:KK):Nat->Int->Bool
 | 0,_=>false
 | n + 1,c=>busy k c || anyBusy k n (c + 1)
def settle (cores:Nat):Nat->KK->Bool × KK
 | 0,k=>(!anyBusy k cores 0,k)
 | n + 1,k=>if (sweep cores 0 k false).2 = false then (true,(sweep cores 0 k false).1) else settle cores n (sweep cores 0 k false).1
def lastA (core:Int) (es:List bu):Nat->fe × Bool
 | 0=>(⟨0,0⟩,false)
 | n + 1=>match es[n]? with
  | some e=>if e.fOa = core then (e.fAb,decide (e.fTa > 0)) else lastA core es n
  | none=>(⟨0,0⟩,false)
def run (k:KK) (core env:Int) (c:dp):(fe × Bool) × KK :=
 if (begin_ k core env c).1 = false then ((⟨0,0⟩,false),(begin_ k core env c).2)
 else if (settle 8 1000 (begin_ k core env c).2).1 = false then ((⟨0,0⟩,false),(settle 8 1000 (begin_ k core env c).2).2)
 else (lastA core (settle 8 1000 (begin_ k core env c).2).2.events (settle 8 1000 (begin_ k core env c).2).2.events.length,(settle 8 1000 (begin_ k core env c).2).2)
theorem access_now (k:KK) (c:Int) (x:KC):(access k c x).2.now = k.now:=by unfold access; split; rfl; split <;> rfl
theorem work_now (k:KK) (c:Int) (x:KC):(work k c x).now = k.now:=by
 unfold work
 split
 ·exact access_now k c x
 ·split
  ·rfl
  ·split
   ·rfl
   ·split <;> rfl
theorem step_now {k:KK} (h0:0 <= k.now) (h:k.now < 2 ^ 38) (c:Int):k.now <= (step k c).2.now/\(step k c).2.now <= k.now + 1:=by
 have hw:=wrapN h0 (by omega)
 unfold step
 split
 ·exact ⟨le_refl _,by show k.now <= k.now + 1; omega⟩
 ·split
  ·exact ⟨le_refl _,by show k.now <= k.now + 1; omega⟩
  ·show _ <= (work _ _ _).now/\(work _ _ _).now <= _
   rw [work_now]
   simp only [tick,hw]; omega
theorem post_now {k:KK} (h0:0 <= k.now) (h:k.now < 2 ^ 38) (c:Int):k.now <= (post k c).2.now/\(post k c).2.now <= k.now + 1:=by
 have hw:=wrapN h0 (by omega)
 unfold post
 split
 ·exact ⟨le_refl _,by show k.now <= k.now + 1; omega⟩
 ·split
  ·exact ⟨le_refl _,by show k.now <= k.now + 1; omega⟩
  ·show _ <= (tick k).now/\(tick k).now <= _
   simp only [tick,hw]; omega
theorem begin_now {k:KK} (h0:0 <= k.now) (h:k.now < 2 ^ 38) (core env:Int) (c:dp):k.now <= (begin_ k core env c).2.now/\(begin_ k core env c).2.now <= k.now + 1:=by
 have hw:=wrapN h0 (by omega)
 unfold begin_
 split
 ·exact ⟨le_refl _,by show k.now <= k.now + 1; omega⟩
 ·simp only [hw]; omega
end KK
section
variable {x:Ptr} {l:List As}
theorem kern_n0 {k:KK} {h:Hp} (s:aB (dl x k::l) h):0 <= k.now/\k.events.length <= k.now:=by
 obtain ⟨z,_,_,ok,_⟩:=tc s
 exact ⟨ok.n0,ok.evn⟩
theorem settle_l3 {Rec:Bool × Int->Hp->Prop} {k:KK} {b:Bool} {c:Int} {h:Hp} (h0:0 <= c) (hc:c < 100) (hn:k.now + 5001 < 2 ^ 37) (st:aB (dl x k::l) h)
  (kk:∀ h',(KK.turn1 k c).1.now <= k.now + 5001->aB (dl x (KK.turn1 k c).1::l) h'->Rec ((KK.turn1 k c).2 || b,c + 1) h'):Lp (gJ x Rec (b,c)) 0 h:=by
 have hj:∀ d h',KK.drain c 5000 k = d->d.now <= k.now + 5000->aB (dl x d::l) h'->fA x Rec (b,c) () h':=by
  intro d h' e hd s1
  unfold fA
  refine bS (i:=0) (pj x d c) rfl s1 fun r h2 hr s2=>?_
  refine bS (i:=0) (pj x d c) rfl s2 fun r' h3 hr' s3=>?_
  subst hr; subst hr'
  have hw:i64.wrap (c + 1) = c + 1:=bm (by omega) (by omega)
  simp only [hw]
  refine aY (fun k2=>?_) (fun k2=>?_)
  ·refine bS (i:=0) (sp_kern_Step x d c (by omega)) rfl s3 fun r h4 hr s4=>?_
   have e2:KK.turn1 k c = ((KK.step d c).2,true):=by unfold KK.turn1; rw [e,if_pos k2]
   have n1:=kern_n0 s3
   have n2:=KK.step_now n1.1 (by omega) c
   rw [e2] at kk
   rw [k2]
   exact kk h4 (by show (KK.step d c).2.now <= _; omega) s4
  ·have e2:KK.turn1 k c = (d,false):=by unfold KK.turn1; rw [e,if_neg (by rw [k2]; exact Bool.false_ne_true)]
   rw [e2] at kk
   rw [k2]
   exact kk h3 (by show d.now <= _; omega) s3
 refine Lp.intro (fun (m:Int) h=>∃ (n:Nat) (d:KK),m = 5000 - n/\n <= 5000/\KK.drain c n d = KK.drain c 5000 k/\d.now <= k.now + (5000 - n)/\aB (dl x d::l) h) (fun m _=>(5000 - m).toNat) ⟨5000,k,rfl,Nat.le_refl _,rfl,by omega,st⟩ ?_
 rintro m h1 ⟨n,d,rfl,hm,e,hd,s1⟩
 unfold gJ
 refine aY (fun k1=>?_) (fun k1=>?_)
 ·have hlt:0 < n:=by have:=of_decide_eq_true k1; omega
  obtain ⟨n,rfl⟩:∃ j,n = j + 1:=⟨n - 1,by omega⟩
  refine bS (i:=0) (sp_kern_Mail x d c) rfl s1 fun r h2 hr s2=>?_
  subst hr
  refine aY (fun k2=>?_) (fun k2=>?_)
  ·have k2':0 < KK.mail d c:=of_decide_eq_true k2
   refine bS (i:=0) (sp_kern_Post x d c (by omega)) rfl s2 fun r h3 hr s3=>?_
   have n1:=kern_n0 s2
   have n2:=KK.post_now n1.1 (by omega) c
   have hw:i64.wrap ((5000:Int) - ((n + 1:Nat):Int) + 1) = 5000 - (n:Int):=by rw [bm (by omega) (by omega)]; omega
   rw [hw]
   refine ⟨⟨n,_,rfl,by omega,?_,by omega,s3⟩,by show (5000 - (5000 - (n:Int))).toNat < (5000 - (5000 - ((n + 1:Nat):Int))).toNat; omega⟩
   rw [← e]
   exact (if_pos k2').symm
  ·have k2':¬ 0 < KK.mail d c:=of_decide_eq_false k2
   exact hj d h2 (by rw [← e]; exact if_neg k2') (by omega) s2
 ·have hz:n = 0:=by have:=of_decide_eq_false k1; omega
  subst hz
  exact hj d h1 e.symm (by omega) s1
theorem settle_l2 {Rec2:Int->Hp->Prop} {K:Bool->Hp->Prop} {k:KK} {m:Int} {cores:Nat} {h:Hp} (hc:cores <= 8) (hn:k.now + cores * 5001 < 2 ^ 37) (st:aB (dl x k::l) h)
  (kt:∀ h',(KK.sweep cores 0 k false).2 = false->(KK.sweep cores 0 k false).1.now <= k.now + cores * 5001->aB (dl x (KK.sweep cores 0 k false).1::l) h'->K true h')
  (kf:∀ h',(KK.sweep cores 0 k false).2 = true->(KK.sweep cores 0 k false).1.now <= k.now + cores * 5001->aB (dl x (KK.sweep cores 0 k false).1::l) h'->Rec2 (i64.wrap (m + 1)) h') :
  Lp (gK x cores K Rec2 m) (false,0) h:=by
 refine Lp.intro (fun (s:Bool × Int) h=>∃ (n:Nat) (d:KK),s.2 = (cores:Int) - n/\n <= cores/\KK.sweep n s.2 d s.1 = KK.sweep cores 0 k false/\d.now <= k.now + (cores - n) * 5001/\aB (dl x d::l) h) (fun s _=>cores - s.2.toNat)
  ⟨cores,k,by simp,Nat.le_refl _,rfl,by simp,st⟩ ?_
 rintro ⟨b,c⟩ h1 ⟨n,d,e0,hm,e,hd,s1⟩
 simp only at e0 e
 subst e0
 unfold gK
 refine aY (fun k1=>?_) (fun k1=>?_)
 ·have hlt:0 < n:=by have:=of_decide_eq_true k1; simp only at this; omega
  obtain ⟨n,rfl⟩:∃ j,n = j + 1:=⟨n - 1,by omega⟩
  have hq:(((cores:Int) - ((n + 1:Nat):Int)) * 5001) + 5001 = ((cores:Int) - n) * 5001:=by omega
  have hq2:((cores:Int) - n) * 5001 <= cores * 5001:=by omega
  refine settle_l3 (by omega) (by omega) (by omega) s1 fun h' hnow s2=>?_
  have hw:(cores:Int) - ((n + 1:Nat):Int) + 1 = (cores:Int) - n:=by omega
  refine ⟨⟨n,_,hw,by omega,?_,by omega,s2⟩,?_⟩
  ·rw [← e]; rfl
  ·show cores - ((cores:Int) - ((n + 1:Nat):Int) + 1).toNat < cores - ((cores:Int) - ((n + 1:Nat):Int)).toNat
   omega
 ·have hz:n = 0:=by have:=of_decide_eq_false k1; simp only at this; omega
  subst hz
  have e':(d,b) = KK.sweep cores 0 k false:=e
  refine aY (fun k2=>?_) (fun k2=>?_)
  ·have hb:b = false:=by simpa using k2
   rw [← e'] at kt
   exact kt h1 hb (by show d.now <= _; simpa using hd) s1
  ·have hb:b = true:=by simpa using k2
   rw [← e'] at kf
   exact kf h1 hb (by show d.now <= _; simpa using hd) s1
theorem settle_l4 {K:Bool->Hp->Prop} {k:KK} {cores:Nat} {h:Hp} (hc:cores <= 8) (st:aB (dl x k::l) h)
  (kk:∀ h',aB (dl x k::l) h'->K (!KK.anyBusy k cores 0) h'):Lp (gI x cores K) 0 h:=by
 refine Lp.intro (fun (c:Int) h=>∃ n:Nat,c = (cores:Int) - n/\n <= cores/\KK.anyBusy k n c = KK.anyBusy k cores 0/\aB (dl x k::l) h) (fun s _=>cores - s.toNat) ⟨cores,by simp,Nat.le_refl _,rfl,st⟩ ?_
 rintro c h1 ⟨n,rfl,hm,e,s1⟩
 unfold gI
 refine aY (fun k1=>?_) (fun k1=>?_)
 ·have hlt:0 < n:=by have:=of_decide_eq_true k1; omega
  obtain ⟨n,rfl⟩:∃ j,n = j + 1:=⟨n - 1,by omega⟩
  refine bS (i:=0) (pj x k _) rfl s1 fun r h2 hr s2=>?_
  subst hr
  have e':(KK.busy k ((cores:Int) - ((n + 1:Nat):Int)) || KK.anyBusy k n ((cores:Int) - ((n + 1:Nat):Int) + 1)) = KK.anyBusy k cores 0:=e
  refine aY (fun k2=>?_) (fun k2=>?_)
  ·rw [k2,Bool.true_or] at e'
   rw [← e'] at kk
   exact kk h2 s2
  ·rw [k2,Bool.false_or] at e'
   have hw:i64.wrap ((cores:Int) - ((n + 1:Nat):Int) + 1) = (cores:Int) - ((n + 1:Nat):Int) + 1:=bm (by omega) (by omega)
   rw [hw]
   refine ⟨⟨n,by omega,by omega,e',s2⟩,by omega⟩
 ·have hz:n = 0:=by have:=of_decide_eq_false k1; omega
  subst hz
  have e':false = KK.anyBusy k cores 0:=e
  rw [← e'] at kk
  exact kk h1 s1
end
theorem sp_Settle (x:Ptr) (k:KK) (cores most:Nat) (hc:cores <= 8) (hm:most <= 1000) (hn:k.now < 2 ^ 36):Sp prog ig [pv x,.int .i64 cores,.int .i64 most] aC [dl x k]
  (fun r=>pa_ (r = (KK.settle cores most k).1/\(KK.settle cores most k).2.now <= k.now + most * 40008) [dl x (KK.settle cores most k).2]):=by
 intro h st
 refine wb _ _ _ ?_
 unfold oI
 refine Lp.intro (fun (m:Int) h=>∃ (n:Nat) (d:KK),m = (most:Int) - n/\n <= most/\KK.settle cores n d = KK.settle cores most k/\d.now <= k.now + (most - n) * 40008/\aB [dl x d] h) (fun m _=>most - m.toNat)
  ⟨most,k,by simp,Nat.le_refl _,rfl,by simp,st⟩ ?_
 rintro m h1 ⟨n,d,rfl,hnm,e,hd,s1⟩
 unfold ka
 have hq:((most:Int) - n) * 40008 <= 1000 * 40008:=by omega
 have hq2:(cores:Int) * 5001 <= 40008:=by omega
 refine aY (fun k1=>?_) (fun k1=>?_)
 ·have hlt:0 < n:=by have:=of_decide_eq_true k1; omega
  obtain ⟨n,rfl⟩:∃ j,n = j + 1:=⟨n - 1,by omega⟩
  have e':(if (KK.sweep cores 0 d false).2 = false then (true,(KK.sweep cores 0 d false).1) else KK.settle cores n (KK.sweep cores 0 d false).1) = KK.settle cores most k:=e
  refine settle_l2 hc (by omega) s1 (fun h' hb hnow s2=>?_) (fun h' hb hnow s2=>?_)
  ·rw [if_pos hb] at e'
   rw [← e']
   exact aZ ⟨rfl,by show (KK.sweep cores 0 d false).1.now <= _; omega⟩ s2
  ·rw [if_neg (by rw [hb]; decide)] at e'
   have hw:i64.wrap ((most:Int) - ((n + 1:Nat):Int) + 1) = (most:Int) - n:=by rw [bm (by omega) (by omega)]; omega
   rw [hw]
   exact ⟨⟨n,_,rfl,by omega,e',by omega,s2⟩,by omega⟩
 ·have hz:n = 0:=by have:=of_decide_eq_false k1; omega
  subst hz
  have e':(!KK.anyBusy d cores 0,d) = KK.settle cores most k:=e
  refine settle_l4 hc s1 fun h' s2=>?_
  rw [← e']
  exact aZ ⟨rfl,by show d.now <= _; simpa using hd⟩ s2
theorem run_yes {k:KK} {core env:Int} {c:dp} {d e:KK} (h1:(KK.begin_ k core env c) = (true,d)) (h2:KK.settle 8 1000 d = (true,e)):KK.run k core env c = (KK.lastA core e.events e.events.length,e):=by
 unfold KK.run
 rw [h1]
 dsimp only
 rw [if_neg (by decide),h2]
 dsimp only
 rw [if_neg (by decide)]
theorem run_l1 {s:Sl} {es:List bu} {l:List As} {core:Int} {K:fe × Bool->Hp->Prop} {h:Hp} (hb:es.length < 2 ^ 38) (st:aB (vE s es::l) h)
  (kk:∀ h',aB (vE s es::l) h'->K (KK.lastA core es es.length) h'):Lp (gB core K s) (i64.wrap ((s.len:Int) - 1),⟨0,0⟩) h:=by
 have hl:=(cc (j:=0) st rfl).1
 have hw0:i64.wrap ((s.len:Int) - 1) = (es.length:Int) - 1:=by rw [hl,bm (by omega) (by omega)]
 rw [hw0]
 refine Lp.intro (fun (z:Int × fe) h=>∃ n:Nat,z = ((n:Int) - 1,⟨0,0⟩)/\n <= es.length/\KK.lastA core es n = KK.lastA core es es.length/\aB (vE s es::l) h) (fun z _=>(z.1 + 1).toNat) ⟨_,rfl,Nat.le_refl _,rfl,st⟩ ?_
 rintro _ h1 ⟨n,rfl,hn,e,s1⟩
 unfold gB
 refine aY (fun k1=>?_) (fun k1=>?_)
 ·have hlt:0 < n:=by have:=of_decide_eq_true k1; simp only at this; omega
  obtain ⟨n,rfl⟩:∃ j,n = j + 1:=⟨n - 1,by omega⟩
  have hn':n < es.length:=by omega
  have hi:((n + 1:Nat):Int) - 1 = (n:Int):=by omega
  simp only [hi]
  have e':(match es[n]? with
   | some e=>if e.fOa = core then (e.fAb,decide (e.fTa > 0)) else KK.lastA core es n
   | none=>(⟨0,0⟩,false)) = KK.lastA core es es.length:=e
  rw [aE hn'] at e'
  simp only at e'
  refine cZ s1 (j:=0) rfl (by omega) (by show (n:Int) < _; omega) fun q hq=>?_
  have lk:∀ {σ:Type} {enc:σ->List Value} {K:σ->Hp->Prop} (y:σ) (o:Nat),(∀ i v,(enc y)[i]? = some v->(es[n].C)[o + i]? = some v)->K y h1->ld (q.1,q.2 + Int.toNat (n:Int) * 16 + o) enc K h1:=by
   intro σ enc K y o he k
   exact dz (j:=0) (i:=n) (k:=o) y kM s1 rfl hq (by simp) (aE hn') he k
  refine lk es[n].fOa 0 (fun i v hv=>?_) ?_
  ·rcases i with _ | i <;> first | exact hv | simp [cI] at hv
  refine aY (fun k2=>?_) (fun k2=>?_)
  ·have k2':es[n].fOa = core:=by simpa using k2
   rw [if_pos k2'] at e'
   have hA:∀ i v,(ad.C es[n].fAb)[i]? = some v->(es[n].C)[10 + i]? = some v:=by
    intro i v hv
    rcases i with _ | _ | i <;> first | exact hv | simp [ad.C] at hv
   have hE:∀ i v,((cI .i64) es[n].fTa)[i]? = some v->(es[n].C)[9 + i]? = some v:=by
    intro i v hv
    rcases i with _ | i <;> first | exact hv | simp [cI] at hv
   refine ⟨lk _ 10 hA (lk _ 9 hE ?_),lk _ 9 hE (lk _ 10 hA ?_)⟩
   ·rw [e']; exact kk h1 s1
   ·rw [e']; exact kk h1 s1
  ·have k2':¬ es[n].fOa = core:=by simpa using k2
   rw [if_neg k2'] at e'
   rw [bm (by omega) (by omega)]
   exact ⟨⟨n,rfl,by omega,e',s1⟩,by show ((n:Int) - 1 + 1).toNat < ((n:Int) + 1).toNat; omega⟩
 ·have hz:n = 0:=by have:=of_decide_eq_false k1; simp only at this; omega
  subst hz
  have e':((⟨0,0⟩,false):fe × Bool) = KK.lastA core es es.length:=e
  rw [← e'] at kk
  exact kk h1 s1
theorem run_no {k:KK} {core env:Int} {c:dp} {d e:KK} (h1:(KK.begin_ k core env c) = (true,d)) (h2:KK.settle 8 1000 d = (false,e)):KK.run k core env c = ((⟨0,0⟩,false),e):=by
 unfold KK.run
 rw [h1]
 dsimp only
 rw [if_neg (by decide),h2]
 dsimp only
 rw [if_pos rfl]
theorem run_tail (x:Ptr) (k:KK) (core env:Int) (c:dp) (d:KK) (h1:KK.begin_ k core env c = (true,d)) (hn:d.now <= k.now + 1) (hk:k.now < 2 ^ 35) {h:Hp} (s1:aB [dl x d] h) :
  (cl prog ig [(pv x),(.int .i64 8),(.int .i64 1000)] aC fun r20 =>
   br (!r20) ((fun r h'=>pa_ (r = (KK.run k core env c).1/\(KK.run k core env c).2.now <= k.now + 40008001) [dl x (KK.run k core env c).2] h') (⟨0,0⟩,false)) (
   cl prog gf [(pv x)] eN fun r24 =>
   Lp (gB core (fun r h'=>pa_ (r = (KK.run k core env c).1/\(KK.run k core env c).2.now <= k.now + 40008001) [dl x (KK.run k core env c).2] h') r24) ((i64.wrap ((r24.len:Int) - 1)),(⟨0,0⟩:ad)))) h:=by
 have c8:=sp_Settle x d 8 1000 (Nat.le_refl _) (Nat.le_refl _) (by omega)
 generalize hz:KK.settle 8 1000 d = z at c8
 obtain ⟨b,e⟩:=z
 refine bS (i:=0) c8 rfl s1 fun r h2 hr s2=>?_
 obtain ⟨hr,hs⟩:=hr
 have hs':e.now <= d.now + 40008000:=hs
 have n2:=kern_n0 s2
 have hr':r = b:=hr
 rw [hr']
 cases b
 ·rw [run_no h1 hz]
  exact eD rfl (aZ ⟨rfl,by show e.now <= _; omega⟩ s2)
 ·refine dO rfl ?_
  refine xt (i:=0) (tF x _ (by show e.now < _; omega)) rfl s2 fun s h3 s3=>?_
  refine run_l1 (by show e.events.length < _; have:(e.events.length:Int) <= e.now:=n2.2; omega) s3 fun h4 s4=>?_
  rw [run_yes h1 hz]
  exact aZ ⟨rfl,by show e.now <= _; omega⟩ (cd (l:=[_]) s4)
theorem sp_Run (x:Ptr) (k:KK) (core env:Int) (c:dp) (hn:k.now < 2 ^ 35):Sp prog eR [pv x,.int .i64 core,.int .i64 env,.agg c.C.toArray] bo [dl x k]
  (fun r=>pa_ (r = (KK.run k core env c).1/\(KK.run k core env c).2.now <= k.now + 40008001) [dl x (KK.run k core env c).2]):=by
 intro h st
 have n0:=kern_n0 st
 have nb:=KK.begin_now n0.1 (by omega) core env c
 refine sim_messuagelaw16_Run _ _ _ _ ?_
 unfold rD
 refine bS (i:=0) (sp_kern_Begin x k core env c (by omega)) rfl st fun r h1 hr s1=>?_
 subst hr
 refine aY (fun k1=>?_) (fun k1=>?_)
 ·have k1':(KK.begin_ k core env c).1 = false:=by simpa using k1
  have e:KK.run k core env c = ((⟨0,0⟩,false),(KK.begin_ k core env c).2):=if_pos k1'
  rw [e]
  exact aZ ⟨rfl,by show (KK.begin_ k core env c).2.now <= _; omega⟩ s1
 ·have k1':(KK.begin_ k core env c).1 = true:=by simpa using k1
  exact run_tail x k core env c (KK.begin_ k core env c).2 (by rw [← k1']) (by omega) hn s1
end
section
open Go Mb
structure IE (k:KK):Prop where
 inv:fw k
 ev:jL k
theorem ie_new {s:fQ} (h:PK.sized s = true):IE (KK.new s):=⟨inv_new h,evinv_new s⟩
theorem IE.begin {k:KK} (A:IE k) (hn:k.now < 2 ^ 40) (core env:Int) {c:dp} (cw:Cw c):IE (KK.begin_ k core env c).2:=⟨A.inv.begin hn core env cw,A.ev.begin A.inv.ok hn core env c⟩
theorem IE.evict {k:KK} (A:IE k) (hn:k.now < 2 ^ 40) (c s w:Int):IE (KK.evict k c s w).2:=by
 have hI:=A.inv.evict hn c s w
 have hw:=wrapN A.inv.ok.n0 hn
 have he:(KK.evict k c s w).2.events = k.events/\(KK.evict k c s w).2.p = k.p/\(KK.evict k c s w).2.calls = k.calls/\k.now <= (KK.evict k c s w).2.now:=by
  unfold KK.evict
  split
  ·exact ⟨rfl,rfl,rfl,le_refl _⟩
  ·split
   ·exact ⟨rfl,rfl,rfl,le_refl _⟩
   ·exact ⟨rfl,rfl,rfl,by show k.now <= i64.wrap (k.now + 1); omega⟩
 exact ⟨hI,A.ev.same he.1 (by rw [he.2.1]) he.2.2.2 (fun c x h=>⟨x,by rw [← he.2.2.1]; exact h,rfl,rfl,rfl⟩) (fun c x h=>⟨x,by rw [he.2.2.1]; exact h,rfl⟩)⟩
theorem IE.post {k:KK} (A:IE k) (hn:k.now < 2 ^ 40) (c:Int):IE (KK.post k c).2:=by
 have hI:=A.inv.post hn c
 have hw:=wrapN A.inv.ok.n0 hn
 have he:(KK.post k c).2.events = k.events/\(KK.post k c).2.p = k.p/\(KK.post k c).2.calls = k.calls/\k.now <= (KK.post k c).2.now:=by
  unfold KK.post
  split
  ·exact ⟨rfl,rfl,rfl,le_refl _⟩
  ·split
   ·exact ⟨rfl,rfl,rfl,le_refl _⟩
   ·exact ⟨rfl,rfl,rfl,by show k.now <= i64.wrap (k.now + 1); omega⟩
 exact ⟨hI,A.ev.same he.1 (by rw [he.2.1]) he.2.2.2 (fun c x h=>⟨x,by rw [← he.2.2.1]; exact h,rfl,rfl,rfl⟩) (fun c x h=>⟨x,by rw [he.2.2.1]; exact h,rfl⟩)⟩
theorem do_wait {k:PK} {e:Int} {c:dp} (h:(PK.do_ k e c).1.2 = false):(PK.do_ k e c).2 = k:=by
 unfold PK.do_ at h ⊢
 split
 ·rfl
 ·rename_i h1
  rw [if_neg h1] at h
  split
  ·rfl
  ·rename_i h2
   rw [if_neg h2] at h
   unfold PK.does PK.errs at h ⊢
   repeat' split
   all_goals first | rfl | (exfalso; simp_all; done)
theorem vS (k:KK) (c:Int) (x:KC):(KK.access k c x).2.events = k.events/\(KK.access k c x).2.now = k.now/\(KK.access k c x).2.p.s = k.p.s/\(KK.access k c x).2.calls = k.calls/\(KK.access k c x).2.fGa = k.fGa:=by
 unfold KK.access
 split
 ·exact ⟨rfl,rfl,rfl,rfl,rfl⟩
 ·split
  ·exact ⟨rfl,rfl,rfl,rfl,rfl⟩
  ·exact ⟨rfl,rfl,touch_s _ _ _,rfl,rfl⟩
theorem work_ev {k:KK} (E:jL k) (hlate:∀ (i:Nat) e,k.events[i]? = some e->e.fQa < k.now/\e.fHa < k.now) {c:Nat} {x:KC} (hc:c < k.calls.length) (hcx:k.calls[c]? = some (some x)):jL (KK.work k c x):=by
 unfold KK.work
 by_cases hu:bJ (az x.fc).1 = true
 ·rw [if_pos hu]
  obtain ⟨h1,h2,h3,h4,_⟩:=vS k c x
  have E2:jL (KK.access k c x).2:=E.same h1 h3 (by rw [h2]; exact le_refl _) (fun d y h=>⟨y,by rw [← h4]; exact h,rfl,rfl,rfl⟩) (fun d y h=>⟨y,by rw [h4]; exact h,rfl⟩)
  exact E2.ends (by rw [h4]; exact hcx) (by rw [h1,h2]; exact hlate) _ _
 ·rw [if_neg hu]
  split
  ·refine E.same rfl rfl (le_refl _) (fun d y h=>?_) (fun d y h=>?_)
   ·simp only [KK.send,KK.clean,KK.tell,toNat_natCast,set_set] at h
    rw [getElem?_set] at h
    split at h
    ·rename_i e
     refine ⟨x,e ▸ hcx,?_⟩
     simp only [hc,if_true,Option.some.injEq] at h
     rw [← h]; exact ⟨rfl,rfl,rfl⟩
    ·exact ⟨y,h,rfl,rfl,rfl⟩
   ·simp only [KK.send,KK.clean,KK.tell,toNat_natCast,set_set]
    rw [getElem?_set]
    by_cases e:c = d
    ·subst e
     rw [hcx] at h
     cases h
     rw [if_pos rfl,if_pos hc]
     exact ⟨_,rfl,rfl⟩
    ·rw [if_neg e]; exact ⟨y,h,rfl⟩
  ·split
   ·exact E
   ·split
    ·have E2:jL { k with p:=(PK.do_ k.p x.fFa x.fc).2 }:=E.same rfl (do_s _ _ _) (le_refl _) (fun d y h=>⟨y,h,rfl,rfl,rfl⟩) (fun d y h=>⟨y,h,rfl⟩)
     exact E2.ends hcx hlate _ _
    ·rename_i hdone
     rw [do_wait (by simpa using hdone)]
     exact E
theorem tick_now {k:KK} (ok:KK.Ok k) (hn:k.now < 2 ^ 40):(KK.tick k).now = k.now + 1:=wrapN ok.n0 hn
theorem tick_ev {k:KK} (ok:KK.Ok k) (E:jL k) (hn:k.now < 2 ^ 40):jL (KK.tick k):=E.same rfl rfl (by rw [tick_now ok hn]; omega) (fun c x h=>⟨x,h,rfl,rfl,rfl⟩) (fun c x h=>⟨x,h,rfl⟩)
theorem tick_late {k:KK} (ok:KK.Ok k) (E:jL k) (hn:k.now < 2 ^ 40):∀ (i:Nat) e,(KK.tick k).events[i]? = some e->e.fQa < (KK.tick k).now/\e.fHa < (KK.tick k).now:=fun i e h=>by
 have o:=E.one i e h
 rw [tick_now ok hn]
 have h1:=o.b1
 have h0:=o.b0
 rcases o.st with h2 | h2
 ·exact ⟨by omega,by rw [h2.1]; omega⟩
 ·exact ⟨by omega,by omega⟩
theorem IE.step {k:KK} (A:IE k) (hn:k.now < 2 ^ 40) (c:Int):IE (KK.step k c).2:=by
 refine ⟨A.inv.step hn c,?_⟩
 unfold KK.step
 split
 ·exact A.ev
 ·rename_i hb
  obtain ⟨hi,x,hx⟩:=busy_is (by simpa using hb)
  rw [hx]
  obtain ⟨n,rfl,hlt⟩:=lN hi
  exact work_ev (tick_ev A.inv.ok A.ev hn) (tick_late A.inv.ok A.ev hn) (by show n < k.calls.length; omega) (qW hx)
end
section
open Go Mb
theorem do_done {k:PK} {e:Int} {c:dp} (cw:Cw c) (h9:c.e0 ≠ 9) (hn:1 <= k.s.fJa/\k.s.fJa <= 4):(PK.do_ k e c).1.2 = true:=by
 by_cases hb:PK.off k e = true\/Word.check c k.s.fJa ≠ 0
 ·exact (PK.do_bad hb).2.1
 ·simp only [not_or,Bool.not_eq_true,Decidable.not_not] at hb
  have w:=uL hn.1 hn.2 hb.2
  rw [PK.do_good hb.1 hb.2]
  unfold PK.does PK.errs
  rw [PK.w0 w]
  repeat' split
  all_goals first | rfl | (exfalso; omega)
variable {P:KK->Prop}
structure Stepped (k k':KK) (c:Nat):Prop where
 other:∀ d,d ≠ c->k'.calls[d]? = k.calls[d]?
 len:k'.calls.length = k.calls.length
 own:∃ m,k'.fGa.1 = k.fGa.1++m/\m.length <= 1
 iL:∀ d,iL k' d = iL k d
theorem step_stepped {k:KK} (A:fw k) {c:Nat} {x:KC} (hc:c < k.calls.length) (hx:k.calls[c]? = some (some x)):Stepped k (KK.step k c).2 c /\
  (x.fc.e0 ≠ 9->(KK.step k c).2.calls[c]? = some none\/∃ y,(KK.step k c).2.calls[c]? = some (some y)/\y.fRa = true/\y.fc = x.fc) /\
  (x.fRa = true->fNa.done k.fGa x.fCb = true->(KK.step k c).2.calls[c]? = some none):=by
 have hi:KK.is k c = true:=by unfold KK.is; exact decide_eq_true (by omega)
 have hcall:KK.call k c = some x:=by unfold KK.call; rw [toNat_natCast,List.getD_eq_getElem?_getD,hx]; rfl
 have hb:KK.busy k c = true:=by unfold KK.busy; rw [hi,hcall]; rfl
 have cw:=A.cw c x hx
 have hstep:(KK.step k c).2 = KK.work (KK.tick k) c x:=by unfold KK.step; rw [if_neg (by rw [hb]; simp),hcall]
 have ends_c:∀ (m:KK) (a:fe) (l:jM),m.calls = k.calls->(KK.ends m c x a l).calls = k.calls.set c none:=fun m a l h=>by unfold KK.ends; simp [h]
 have set_none:∀ d,d ≠ c->(k.calls.set c none)[d]? = k.calls[d]?:=fun d h=>by rw [getElem?_set,if_neg (fun e=>h e.symm)]
 have at_none:(k.calls.set c none)[c]? = some none:=by rw [getElem?_set,if_pos rfl,if_pos hc]
 have told_nu:x.fRa = true->¬ bJ (az x.fc).1 = true:=fun ht hu=>by
  have T:=A.teller ⟨hx,ht⟩
  have w:=uL A.en.1 A.en.2 T.k
  have:=T.t
  rw [xe w.kind] at hu
  unfold bJ at hu
  unfold Tk at this
  simp at hu
  omega
 rw [hstep]
 unfold KK.work
 by_cases hu:bJ (az x.fc).1 = true
 ·rw [if_pos hu]
  have ha:(KK.access (KK.tick k) c x).2.calls = k.calls/\(KK.access (KK.tick k) c x).2.fGa = k.fGa:=by
   unfold KK.access
   split
   ·exact ⟨rfl,rfl⟩
   ·split <;> exact ⟨rfl,rfl⟩
  have hcs:=ends_c (KK.access (KK.tick k) c x).2 (KK.access (KK.tick k) c x).1.1 (KK.access (KK.tick k) c x).1.2 ha.1
  have hep:(KK.ends (KK.access (KK.tick k) c x).2 c x (KK.access (KK.tick k) c x).1.1 (KK.access (KK.tick k) c x).1.2).fGa = k.fGa:=ha.2
  refine ⟨⟨fun d h=>by rw [hcs]; exact set_none d h,by rw [hcs]; simp,⟨[],by rw [hep]; simp,zero_le _⟩,fun d=>by unfold iL; rw [hep]⟩,fun _=>.inl (by rw [hcs]; exact at_none),fun ht=>absurd hu (told_nu ht)⟩
 ·rw [if_neg hu]
  by_cases ht:x.fRa = false/\KK.takes (KK.tick k).p x = true
  ·rw [if_pos ht]
   have hcs:(KK.send (KK.clean (KK.tell (KK.tick k) c x) c) c x).calls = k.calls.set c (some { x with fRa:=true,fCb:=(fNa.begin_ k.fGa c).1.1 }):=by
    simp only [KK.send,KK.clean,KK.tell,KK.tick,toNat_natCast,set_set]
   have hep:(KK.send (KK.clean (KK.tell (KK.tick k) c x) c) c x).fGa = (fNa.begin_ k.fGa c).2:=rfl
   have hel:k.fGa.2.length = k.calls.length:=by have:=A.ok.el; have:=A.ok.cl; omega
   have he:(fNa.begin_ k.fGa c).2 = (k.fGa.1++[(c:Int)],k.fGa.2):=by
    have:fNa.is k.fGa c = true:=by unfold fNa.is; exact decide_eq_true (by omega)
    unfold fNa.begin_
    rw [if_pos this]
   refine ⟨⟨fun d h=>by rw [hcs,getElem?_set,if_neg (fun e=>h e.symm)],by rw [hcs]; simp,⟨[(c:Int)],by rw [hep,he],Nat.le_refl _⟩,fun d=>by unfold iL; rw [hep,he]⟩,fun _=>.inr ⟨{ x with fRa:=true,fCb:=(fNa.begin_ k.fGa c).1.1 },by rw [hcs,getElem?_set,if_pos rfl,if_pos hc],rfl,rfl⟩,fun h=>by rw [ht.1] at h; cases h⟩
  ·rw [if_neg ht]
   by_cases hd:x.fRa = true/\fNa.done (KK.tick k).fGa x.fCb = false
   ·rw [if_pos hd]
    refine ⟨⟨fun d h=>rfl,rfl,⟨[],by simp [KK.tick],zero_le _⟩,fun d=>rfl⟩,fun _=>.inr ⟨x,hx,hd.1,rfl⟩,fun h1 h2=>?_⟩
    have:=hd.2
    rw [show (KK.tick k).fGa = k.fGa from rfl,h2] at this
    cases this
   ·rw [if_neg hd]
    by_cases h9:x.fc.e0 = 9
    ·have hnt:¬ x.fRa = true:=fun h=>by
      have:=(A.teller ⟨hx,h⟩).t
      unfold Tk at this; omega
     split
     ·have hcs:=ends_c { KK.tick k with p:=(PK.do_ (KK.tick k).p x.fFa x.fc).2 } (PK.do_ (KK.tick k).p x.fFa x.fc).1.1 ke rfl
      refine ⟨⟨fun d h=>by rw [hcs]; exact set_none d h,by rw [hcs]; simp,⟨[],by show k.fGa.1 = k.fGa.1++[]; simp,zero_le _⟩,fun d=>rfl⟩,fun h=>absurd h9 h,fun h=>absurd h hnt⟩
     ·exact ⟨⟨fun d h=>rfl,rfl,⟨[],by show k.fGa.1 = k.fGa.1++[]; simp,zero_le _⟩,fun d=>rfl⟩,fun h=>absurd h9 h,fun h=>absurd h hnt⟩
    ·have hdn:(PK.do_ (KK.tick k).p x.fFa x.fc).1.2 = true:=do_done cw h9 A.en
     rw [if_pos hdn]
     have hcs:=ends_c { KK.tick k with p:=(PK.do_ (KK.tick k).p x.fFa x.fc).2 } (PK.do_ (KK.tick k).p x.fFa x.fc).1.1 ke rfl
     refine ⟨⟨fun d h=>by rw [hcs]; exact set_none d h,by rw [hcs]; simp,⟨[],by show k.fGa.1 = k.fGa.1++[]; simp,zero_le _⟩,fun d=>rfl⟩,fun _=>.inl (by rw [hcs]; exact at_none),fun _ _=>by rw [hcs]; exact at_none⟩
end
section
open Go Mb
variable {P:KK->Prop}
end
end Go.Proofs.YtemoifebbhoinaaGreatDoor
