/- Part of the proof of: The law RaceAdd returns true for every input, and leaves its arguments as they were. -/
import Derived.Test.YtemoifebbhoinaaGreatDoorRaceAdd12
set_option linter.all false
set_option maxRecDepth 20000
namespace Go.Proofs.YtemoifebbhoinaaGreatDoor
open Go.Proofs.Tryz
open Go.IntKind (i64 u64)
open _root_.Int (le_refl toNat_natCast)
open _root_.List (replicate set_set)
open _root_.Nat (le_of_ble_eq_true)
section
open Go Mb
structure KZ where
 b:Nat
 pp:Ptr
 ts:Sl
 tp:List Ptr
 pm:Ptr
 pe:Ptr
 cs:Sl
 cp:List Ptr
 es:Sl
abbrev kcl (z:KZ) (k:KK):List Value:=[pv z.pp,.int .i64 k.p.s.fIa,sv z.ts,pv z.pm,pv z.pe,sv z.cs,sv z.es,.int .i64 k.now]
abbrev mv (z:KZ) (k:KK):List As:=[blk z.b cj (kcl z k),bq z.pp k.p,vQ sE z.ts z.tp,all fF z.tp k.fNa,jl z.pm k.fJa,eY z.pe k.fFa,vQ fx z.cs z.cp,all iy z.cp k.calls,vE z.es k.events]
structure KZ.Ok (z:KZ) (k:KK):Prop where
 t:z.tp.length = k.fNa.length
 c:z.cp.length = k.calls.length
def cE (x:Ptr) (k:KK):As:=fun h=>∃ z:KZ,(x = some (z.b,0)/\KZ.Ok z k/\KK.Ok k)/\aE (mv z k) h
theorem uz {x:Ptr} {k:KK} {l:List As} {h:Hp} (s0:aE (cE x k::l) h):∃ z:KZ,x = some (z.b,0)/\KZ.Ok z k/\KK.Ok k/\aE (mv z k++l) h:=by
 obtain ⟨z,⟨hx,h1,ok⟩,st⟩:=op_ s0
 exact ⟨z,hx,h1,ok,st⟩
theorem qt {z:KZ} {k:KK} {l:List As} {h:Hp} (h1:KZ.Ok z k) (ok:KK.Ok k) (st:aE (mv z k++l) h):aE (cE (some (z.b,0)) k::l) h :=
 cl_ (m:=fun z:KZ=>mv z k) z ⟨rfl,h1,ok⟩ st
theorem kk_len {k:KK} (ok:KK.Ok k):k.fNa.length = k.calls.length/\k.fJa.length = k.calls.length/\k.fFa.2.length = k.calls.length/\1 <= k.calls.length/\k.calls.length <= 8:=by
 have h1:=ok.tl; have h2:=ok.bl; have h3:=ok.el; have h4:=ok.cl; have h5:=fB.1 ok.p.sz
 omega
theorem is_nat {k:KK} {c:Int} (h:KK.is k c = true):∃ n:Nat,c = n/\n < k.calls.length:=by
 have:=of_decide_eq_true (show decide (0 <= c/\c < (k.calls.length:Int)) = true from h)
 exact ⟨c.toNat,by omega,by omega⟩
theorem call_nat {k:KK} {n:Nat} (h:n < k.calls.length):KK.call k n = k.calls[n]:=by simp [KK.call,h]
theorem buf_nat {k:KK} {n:Nat} (h:n < k.fNa.length):KK.buf k n = k.fNa[n]:=by simp [KK.buf,h]
theorem ww (x:Ptr) (k:KK) (c:Int):Sp prog jE [pv x,.int .i64 c] aB [cE x k] (fun r=>pa_ (r = KK.is k c) [cE x k]):=by
 intro h s0
 obtain ⟨z,rfl,zo,ok,st⟩:=uz s0
 have hcs:=(ci (j:=6) st rfl).1
 refine sim_kern_Kern_is _ _ ?_
 unfold sh_kern_Kern_is
 refine aY (fun d=>?_) (fun d=>?_)
 ·have d':0 <= c:=by simpa using d
  refine cD (bn z.cs st (i:=0) rfl rfl rfl ?_)
  exact aX (by rw [hcs,zo.c]; simp [KK.is,d']) s0
 ·have d':¬ 0 <= c:=by simpa using d
  exact aX (by simp [KK.is]; intro h; exact absurd h d') s0
theorem lQ (x:Ptr) (k:KK) (c:Int):Sp prog eW [pv x,.int .i64 c] aB [cE x k] (fun r=>pa_ (r = KK.busy k c) [cE x k]):=by
 intro h s0
 refine sim_kern_Kern_Busy _ _ ?_
 unfold ug
 refine bQ (ww x k c) (i:=0) rfl s0 fun r h1 hr s1=>?_
 subst hr
 refine aY (fun d=>?_) (fun d=>?_)
 ·obtain ⟨n,rfl,hn⟩:=is_nat d
  obtain ⟨z,rfl,zo,ok,st⟩:=uz s1
  have hcs:=(ci (j:=6) st rfl).1
  have hn':n < z.cp.length:=by rw [zo.c]; exact hn
  refine cD (bn z.cs st (i:=0) rfl rfl rfl ?_)
  refine dn st (j:=6) rfl (by omega) (by omega) fun q hq=>?_
  refine dT (j:=6) (i:=n) (k:=0) z.cp[n] gR st rfl hq (by simp) (aD hn') (by simp) ?_
  refine aX ?_ s1
  unfold KK.busy
  rw [d,call_nat hn]
  cases hc:k.calls[n] with
  | none =>
   have:=call_none (j:=7) st rfl (aD hn') (by rw [aD hn,hc])
   rw [this]; rfl
  | some y =>
   obtain ⟨b,hp,_⟩:=wd (j:=7) st rfl (aD hn') (by rw [aD hn,hc])
   rw [hp]; rfl
 ·exact aX (by unfold KK.busy; rw [d]; rfl) s1
theorem sp_kern_Begin (x:Ptr) (k:KK) (core env:Int) (c:cN) (hn:k.now < 2 ^ 38):Sp prog kW [pv x,.int .i64 core,.int .i64 env,.agg c.C.toArray] aB [cE x k] (fun r=>pa_ (r = (KK.begin_ k core env c).1) [cE x (KK.begin_ k core env c).2]):=by
 intro h s0
 refine sim_kern_Kern_Begin _ _ _ _ ?_
 unfold sN
 have no:(KK.is k core = false\/KK.busy k core = true\/env < 0\/env >= k.p.s.fIa)->KK.begin_ k core env c = (false,k):=fun hh=>if_pos hh
 refine bQ (ww x k core) (i:=0) rfl s0 fun r h1 hr s1=>?_
 subst hr
 refine aY (fun d=>?_) (fun d=>?_)
 ·have d':KK.is k core = true:=by simpa using d
  refine bQ (lQ x k core) (i:=0) rfl s1 fun r h2 hr s2=>?_
  subst hr
  refine aY (fun d2=>?_) (fun d2=>?_)
  ·have d2':KK.busy k core = false/\¬ env < 0:=by simpa using d2
   obtain ⟨z,rfl,zo,ok,st⟩:=uz s2
   refine cD (bn k.p.s.fIa st (i:=0) rfl rfl rfl ?_)
   refine aY (fun d3=>?_) (fun d3=>?_)
   ·rw [no (.inr (.inr (.inr (by simpa using d3))))]
    exact aX rfl s2
   ·have d3':¬ env >= k.p.s.fIa:=by simpa using d3
    have ok2:=kok_begin ok (by omega) core env c
    have e1:KK.begin_ k core env c = (true,{ k with now:=i64.wrap (k.now + 1),events:=k.events++[KK.ev0 core env c (i64.wrap (k.now + 1))],calls:=k.calls.set core.toNat (some ⟨k.events.length,env,c,false,0⟩) }):=by
     unfold KK.begin_; rw [if_neg]; simp [d',d2'.1]; omega
    rw [e1] at ok2 ⊢
    obtain ⟨n,rfl,hcn⟩:=is_nat d'
    have hn':n < z.cp.length:=by rw [zo.c]; exact hcn
    have hcs:=(ci (j:=6) st rfl).1
    have hel:=ok.evn
    refine bn k.now st (i:=0) rfl rfl rfl ?_
    refine uJ (i:=0) st rfl (le_of_ble_eq_true rfl) fun h3 s3=>?_
    refine bn (i64.wrap (k.now + 1)) s3 (i:=0) rfl rfl rfl ?_
    refine bn z.es s3 (i:=0) rfl rfl rfl ?_
    refine kC (τ:=bk) (i:=8) (enc:=aF.C) (val:=fun x=>.agg x.C.toArray) (x:=KK.ev0 n env c (i64.wrap (k.now + 1))) qu mE ev_one (fun _=>rfl) (by omega) rfl rfl s3 rfl (by omega) (by omega) fun v h4 s4=>?_
    refine uJ (i:=0) s4 rfl (le_of_ble_eq_true rfl) fun h5 s5=>?_
    refine bn v s5 (i:=0) rfl rfl rfl ?_
    have hvl:=(ci (j:=8) s5 rfl).1
    refine bn z.cs s5 (i:=0) rfl rfl rfl ?_
    have hw:i64.wrap ((v.len:Int) - 1) = k.events.length:=by rw [hvl]; rw [bN] <;> simp <;> omega
    rw [hw]
    refine pn s5 fun b68 h6 s6=>?_
    refine dn s6 (j:=7) rfl (by omega) (by omega) fun q hq=>?_
    refine st_v (j:=7) (i:=n) (k:=0) (some (b68,0):Ptr) gR s6 rfl hq (by simp) (aD hn') (by simp) rfl fun h7 s7=>?_
    have s8:=bc [8] s7 rfl
    have s10:=all_but (aD hn') (aD hcn) s8
    have s12:=call_mk (y:=⟨k.events.length,env,c,false,0⟩) (bc [1,0] s10 rfl)
    have s14:=all_in2 (A:=iy) hcn zo.c s12
    refine aX rfl (qt (z:={ z with es:=v,cp:=z.cp.set n (some (b68,0)) }) ⟨zo.t,by simpa using zo.c⟩ ok2 (bc [1,1,1,1,1,1,1,0,0] s14 rfl))
  ·rw [no]
   ·exact aX rfl s2
   ·simp at d2
    cases hb:KK.busy k core with
    | true=>exact .inr (.inl rfl)
    | false=>exact .inr (.inr (.inl (d2 hb)))
 ·rw [no (.inl (by simpa using d))]
  exact aX rfl s1
theorem cleans_drop (k:KK) (ls:List jp) (n:Nat) (h:n < ls.length) (b:Buf):KK.cleans k (ls.drop n) b = if KK.stale k ls[n] = true then KK.cleans k (ls.drop (n + 1)) (Tlb.flush b ls[n].fCa ls[n].fOa).2 else KK.cleans k (ls.drop (n + 1)) b:=by
 rw [List.drop_eq_getElem_cons h,KK.cleans]
theorem sp_kern_clean (z:KZ) (k:KK) (c:Nat) (hc:c < k.calls.length) (zo:KZ.Ok z k) (ok:KK.Ok k) :
  Sp prog kV [pv (some (z.b,0)),.int .i64 c] R_ (mv z k) (fun _=>aE (mv z (KK.clean k c))):=by
 intro h s0
 obtain ⟨l1,l2,l3,l4,l5⟩:=kk_len ok
 have hct:c < k.fNa.length:=by omega
 have hcp:c < z.tp.length:=by rw [zo.t]; exact hct
 have hts:=(ci (j:=2) s0 rfl).1
 refine sim_kern_Kern_clean _ _ ?_
 unfold sM
 refine cD (bn z.ts s0 (i:=0) rfl rfl rfl ?_)
 refine dn s0 (j:=2) rfl (by omega) (by omega) fun q hq=>?_
 refine dT (j:=2) (i:=c) (k:=0) z.tp[c] gR s0 rfl hq (by simp) (aD hcp) (by simp) ?_
 have s1:=jv (aD hcp) (aD hct) (bc [3] s0 rfl)
 refine xB (sp_tlb_Lines z.tp[c] k.fNa[c]) (i:=0) rfl s1 fun r h2 s2=>?_
 have s3:=wh (aD hcp) (aD hct) zo.t (bc [1,1] s2 rfl)
 have s4:aE (vL r (Tlb.lines k.fNa[c])::mv z k) h2:=bc [1,1,1,1,0] s3 rfl
 have hll:(Tlb.lines k.fNa[c]).length = 8:=by
  obtain ⟨_,_,h8,_⟩:=oh s1
  unfold Tlb.lines; simpa using h8
 have hrl:=(ci (j:=0) s4 rfl).1
 have hbuf:KK.buf k c = k.fNa[c]:=buf_nat hct
 have same:k.fNa.set c k.fNa[c] = k.fNa:=iK (aD hct)
 refine Lp.intro (fun (i:Int) h=>∃ (n:Nat) (b:Buf),i = n/\n <= 8/\KK.cleans k ((Tlb.lines k.fNa[c]).drop n) b = KK.cleans k (Tlb.lines k.fNa[c]) k.fNa[c]/\aE (vL r (Tlb.lines k.fNa[c])::mv z { k with fNa:=k.fNa.set c b }) h) (fun (i:Int) _=>8 - i.toNat) ⟨0,k.fNa[c],rfl,Nat.zero_le _,rfl,by rw [same]; exact s4⟩ ?_
 rintro i h ⟨n,b,rfl,hn,he,s5⟩
 unfold nA
 refine aY (fun d=>?_) (fun d=>?_)
 ·have hlt:n < (Tlb.lines k.fNa[c]).length:=by rw [hrl] at d; simpa using d
  have hw:i64.wrap ((n:Int) + 1) = ((n + 1:Nat):Int):=by rw [bN (by omega) (by omega)]; rfl
  rw [cleans_drop k _ n hlt] at he
  refine dn s5 (j:=0) rfl (by omega) (by omega) fun q2 hq2=>?_
  refine dT (j:=0) (i:=n) (k:=0) (Tlb.lines k.fNa[c])[n] line_len s5 rfl hq2 (by simp) (aD hlt) (by simp) ?_
  have hcb:c < (k.fNa.set c b).length:=by simpa using hct
  have hgb:(k.fNa.set c b)[c] = b:=by simp
  have j1:∀ (o:Bool × Pte) (h:Hp),((decide ((Tlb.lines k.fNa[c])[n].fCa >= 0)) && (((!o.1) || (o.2.fEa != (Tlb.lines k.fNa[c])[n].fEa)) || (!(aP (Tlb.lines k.fNa[c])[n].fBa o.2.fBa)))) = KK.stale k (Tlb.lines k.fNa[c])[n]->aE (vL r (Tlb.lines k.fNa[c])::mv z { k with fNa:=k.fNa.set c b }) h ->
    ik c (z.b,0) (fun s' h'=>(∃ (n:Nat) (b:Buf),s' = n/\n <= 8/\KK.cleans k ((Tlb.lines k.fNa[c]).drop n) b = KK.cleans k (Tlb.lines k.fNa[c]) k.fNa[c]/\aE (vL r (Tlb.lines k.fNa[c])::mv z { k with fNa:=k.fNa.set c b }) h')/\8 - s'.toNat < 8 - (n:Int).toNat) n (Tlb.lines k.fNa[c])[n] o h:=by
   intro o h hs s6
   unfold ik
   rw [hs,hw]
   refine aY (fun d2=>?_) (fun d2=>?_)
   ·rw [if_pos d2] at he
    refine bn z.ts s6 (i:=1) rfl rfl rfl ?_
    refine dn s6 (j:=3) rfl (by omega) (by omega) fun q3 hq3=>?_
    refine dT (j:=3) (i:=c) (k:=0) z.tp[c] gR s6 rfl hq3 (by simp) (aD hcp) (by simp) ?_
    have s7:=jv (aD hcp) (aD hcb) (bc [4] s6 rfl)
    rw [hgb] at s7
    refine bQ (sp_tlb_Flush z.tp[c] b _ _) (i:=0) rfl s7 fun r h8 hr s8=>?_
    have s9:=xD (aD hcp) hcb (by simpa using zo.t) s8
    rw [set_set] at s9
    exact ⟨⟨n + 1,_,rfl,by omega,he,bc [1,1,1,1] s9 rfl⟩,by simp; omega⟩
   ·rw [if_neg (by rw [d2]; exact Bool.false_ne_true)] at he
    exact ⟨⟨n + 1,b,rfl,by omega,he,s6⟩,by simp; omega⟩
  refine aY (fun d2=>?_) (fun d2=>?_)
  ·have d2':0 <= (Tlb.lines k.fNa[c])[n].fCa:=by simpa using d2
   refine cQ [1,1,5,5] (sp_kern_seen z.b z.pp (kcl z k) k.p z.cs z.cp k.calls (Tlb.lines k.fNa[c])[n].fCa (Tlb.lines k.fNa[c])[n].fOa rfl rfl zo.c l5) s5 rfl fun r h6 s6=>?_
   obtain ⟨rfl,s7⟩:=bu.1 s6
   refine j1 _ _ ?_ (bc [4,0,0,2,2,2,2,0,0] s7 rfl)
   unfold KK.stale KK.seen
   rfl
  ·have d2':¬ 0 <= (Tlb.lines k.fNa[c])[n].fCa:=by simpa using d2
   refine j1 _ _ ?_ s5
   unfold KK.stale
   rw [d2,Bool.false_and,Bool.false_and]
 ·have:n = 8:=by rw [hrl] at d; simp at d; omega
  subst this
  rw [← hll,List.drop_length] at he
  have e1:KK.clean k c = { k with fNa:=k.fNa.set c b }:=by
   unfold KK.clean
   rw [hbuf,← he,toNat_natCast]; rfl
  rw [e1]
  exact cd (l:=[vL r (Tlb.lines k.fNa[c])]) s5
theorem sp_kern_ends (z:KZ) (k:KK) (c:Nat) (x:KC) (a:dZ) (l:jp) (hc:c < k.calls.length) (hx:k.calls[c]? = some (some x)) (zo:KZ.Ok z k) (ok:KK.Ok k) :
  Sp prog mf [pv (some (z.b,0)),.int .i64 c,.agg a.C.toArray,.agg l.C.toArray] R_ (mv z k) (fun _=>aE [cE (some (z.b,0)) (KK.ends k c x a l)]):=by
 intro h s0
 have hcp:c < z.cp.length:=by rw [zo.c]; exact hc
 have hcs:=(ci (j:=6) s0 rfl).1
 have hes:=(ci (j:=8) s0 rfl).1
 obtain ⟨xb,hp,_⟩:=wd (j:=7) s0 rfl (aD hcp) hx
 have hcpx:z.cp[c]? = some (some (xb,0)):=by rw [aD hcp,hp]
 have hcok:=ok.cs x (List.mem_of_getElem? hx)
 obtain ⟨i,hi⟩:=Int.eq_ofNat_of_zero_le hcok.1
 have hil:i < k.events.length:=by omega
 refine sim_kern_Kern_ends _ _ _ _ ?_
 unfold uc
 refine cD (bn z.es s0 (i:=0) rfl rfl rfl ?_)
 refine bn z.cs s0 (i:=0) rfl rfl rfl ?_
 refine dn s0 (j:=6) rfl (by omega) (by omega) fun q hq=>?_
 refine dT (j:=6) (i:=c) (k:=0) z.cp[c] gR s0 rfl hq (by simp) (aD hcp) (by simp) ?_
 rw [hp]
 refine cD (ld_c1 (j:=7) x.fat s0 rfl hcpx hx rfl rfl ?_)
 rw [hi]
 refine dn s0 (j:=8) rfl (by omega) (by omega) fun q2 hq2=>?_
 refine bn k.now s0 (i:=0) rfl rfl rfl ?_
 refine bn k.now s0 (i:=0) rfl rfl rfl ?_
 refine st_v (j:=8) (i:=i) (k:=8) { k.events[i] with fHa:=k.now } mE s0 rfl hq2 rfl (aD hil) (by simp) rfl fun h1 s1=>?_
 have e1:(k.events.set i { k.events[i] with fHa:=k.now })[i]? = some { k.events[i] with fHa:=k.now }:=by simp [hil]
 refine st_v (j:=8) (i:=i) (k:=9) { k.events[i] with fHa:=k.now,fYa:=k.now } mE s1 rfl hq2 rfl e1 (by simp) rfl fun h2 s2=>?_
 simp only [set_set] at s2
 have e2:(k.events.set i { k.events[i] with fHa:=k.now,fYa:=k.now })[i]? = some { k.events[i] with fHa:=k.now,fYa:=k.now }:=by simp [hil]
 refine st_v (j:=8) (i:=i) (k:=10) { k.events[i] with fHa:=k.now,fYa:=k.now,fVa:=a } mE s2 rfl hq2 rfl e2 (by simp [ab.C]) rfl fun h3 s3=>?_
 simp only [set_set] at s3
 have e3:(k.events.set i { k.events[i] with fHa:=k.now,fYa:=k.now,fVa:=a })[i]? = some { k.events[i] with fHa:=k.now,fYa:=k.now,fVa:=a }:=by simp [hil]
 refine st_v (j:=8) (i:=i) (k:=12) (KK.evend k.events[i] k.now a l) mE s3 rfl hq2 rfl e3 (by simp [ao.C]) rfl fun h4 s4=>?_
 simp only [set_set] at s4
 refine bn z.cs s4 (i:=0) rfl rfl rfl ?_
 refine dn s4 (j:=6) rfl (by omega) (by omega) fun q5 hq5=>?_
 refine st_v (j:=6) (i:=c) (k:=0) (none:Ptr) gR s4 rfl hq5 (by simp) (aD hcp) (by simp) rfl fun h5 s5=>?_
 have s7:=all_but hcpx hx (bc [7] s5 rfl)
 have s8:=star_cons (A:=iy none none) (fun _=>rfl) s7
 have s9:=all_in2 (A:=iy) hc zo.c s8
 have hge:k.events.getD i (KK.ev0 0 0 ⟨0,0,0,0,0⟩ 0) = k.events[i]:=by simp [hil]
 have e4:KK.ends k c x a l = { k with events:=k.events.set i (KK.evend k.events[i] k.now a l),calls:=k.calls.set c none }:=by
  unfold KK.ends; rw [hi,toNat_natCast,toNat_natCast,hge]
 have ok2:=kok_ends ok c x a l
 rw [e4] at ok2 ⊢
 refine qt (z:={ z with cp:=z.cp.set c none }) ⟨zo.t,by simpa using zo.c⟩ ok2 (bc [1,1,1,1,1,1,1,0,0] s9 rfl)
end
section
open Go Mb
theorem five {x:KC}:∀ (i:Nat) (v:Value),(ai.C x.fc)[i]? = some v->x.C[2 + i]? = some v:=by
 intro j v hv
 have:j < 5:=(List.getElem?_eq_some_iff.1 hv).1
 match j,this with
 | 0,_=>exact hv
 | 1,_=>exact hv
 | 2,_=>exact hv
 | 3,_=>exact hv
 | 4,_=>exact hv
theorem sp_kern_access (z:KZ) (k:KK) (c xb:Nat) (x:KC) (hc:c < k.calls.length) (hx:k.calls[c]? = some (some x)) (hp:z.cp[c]? = some (some (xb,0))) (zo:KZ.Ok z k) (ok:KK.Ok k) :
  Sp prog nt [pv (some (z.b,0)),.int .i64 c,pv (some (xb,0))] eG (mv z k) (fun r=>pa_ (r = (KK.access k c x).1) (mv z (KK.access k c x).2)):=by
 intro h s0
 obtain ⟨l1,l2,l3,l4,l5⟩:=kk_len ok
 have hct:c < k.fNa.length:=by omega
 have hcp:c < z.tp.length:=by rw [zo.t]; exact hct
 have hbuf:KK.buf k c = k.fNa[c]:=buf_nat hct
 refine sim_kern_Kern_access _ _ _ ?_
 unfold rG
 refine cD (cD ?_)
 refine ld_c (j:=7) x.fc s0 rfl hp hx five ?_
 refine bn k.p.s.fIa s0 (i:=0) rfl rfl rfl ?_
 refine tJ (jg x.fc _) s0 fun r h1 hr s1=>?_
 subst hr
 refine aY (fun d=>?_) (fun d=>?_)
 ·have e1:KK.access k c x = ((⟨Word.check x.fc k.p.s.fIa,0⟩,jJ),k):=if_pos (by simpa using d)
  rw [e1]; exact aX rfl s1
 ·have d':¬ Word.check x.fc k.p.s.fIa ≠ 0:=by simpa using d
  refine ld_c1 (j:=7) x.fc.e1 s1 rfl hp hx rfl rfl ?_
  refine lJ oq s1 fun r37 h2 s2=>?_
  refine ld_c1 (j:=8) x.fGa s2 rfl hp hx rfl rfl ?_
  refine cQ [1,1,5,5] (sp_kern_seen z.b z.pp (kcl z k) k.p z.cs z.cp k.calls x.fGa (i64.wrap x.fc.e1) rfl rfl zo.c l5) s2 rfl fun r h3 s3=>?_
  obtain ⟨hr,s4⟩:=bu.1 s3
  have hr':r = KK.seen k x.fGa (i64.wrap x.fc.e1):=hr
  subst hr'
  have s5:aE (cZ r37 (replicate 8 dh)::mv z k) h3:=bc [4,0,0,2,2,2,2,0,0] s4 rfl
  have j1:∀ h,aE (cZ r37 (KK.fGb k x.fGa (i64.wrap x.fc.e1))::mv z k) h->gJ c (fun r=>pa_ (r = (KK.access k c x).1) (mv z (KK.access k c x).2)) (xb,0) (z.b,0) x.fc.e1 r37 () h:=by
   intro h s6
   have hts:=(ci (j:=3) s6 rfl).1
   unfold gJ
   refine ld_c1 (j:=8) x.fc.e0 s6 rfl hp hx rfl rfl ?_
   refine bn z.ts s6 (i:=1) rfl rfl rfl ?_
   refine dn s6 (j:=3) rfl (by omega) (by omega) fun q hq=>?_
   refine dT (j:=3) (i:=c) (k:=0) z.tp[c] gR s6 rfl hq (by simp) (aD hcp) (by simp) ?_
   refine ld_c1 (j:=8) x.fGa s6 rfl hp hx rfl rfl ?_
   have s7:=jv (aD hcp) (aD hct) (bc [4] s6 rfl)
   refine cQ [0,1] (sp_user_Walk z.tp[c] r37 k.fNa[c] (KK.fGb k x.fGa (i64.wrap x.fc.e1)) x.fGa (i64.wrap x.fc.e1) (i64.wrap x.fc.e0)) s7 rfl fun r h8 s8=>?_
   obtain ⟨hr,s9⟩:=bu.1 s8
   have hr':r = (KK.fBb k c x).1:=by rw [hr]; unfold KK.fBb; rw [hbuf]
   have hw:(User.walk k.fNa[c] (KK.fGb k x.fGa (i64.wrap x.fc.e1)) x.fGa (i64.wrap x.fc.e1) (i64.wrap x.fc.e0)).2 = (KK.fBb k c x).2:=by unfold KK.fBb; rw [hbuf]
   rw [hw] at s9
   subst hr'
   have s10:=xD (aD hcp) hct zo.t (bc [0,1] s9 rfl)
   refine aY (fun d2=>?_) (fun d2=>?_)
   ·have e1:KK.access k c x = ((⟨7,0⟩,jJ),{ k with fNa:=k.fNa.set c (KK.fBb k c x).2 }):=by
     unfold KK.access; rw [if_neg d',if_pos (by simpa using d2),toNat_natCast]
    rw [e1]
    exact aX rfl (cd (l:=[cZ r37 _]) (bc [1,1,1,1,0] s10 rfl))
   ·have e1:KK.access k c x = (((PK.touch k.p (KK.fBb k c x).1.1.fEa x.fc).1.1,(KK.fBb k c x).1.1),{ k with fNa:=k.fNa.set c (KK.fBb k c x).2,p:=(PK.touch k.p (KK.fBb k c x).1.1.fEa x.fc).2 }):=by
     unfold KK.access; rw [if_neg d',if_neg (by simpa using d2),toNat_natCast]
    rw [e1]
    refine bn z.pp s10 (i:=2) rfl rfl rfl ?_
    refine ld_c (j:=8) x.fc s10 rfl hp hx five ?_
    refine bQ (ou z.pp k.p _ x.fc) (i:=3) rfl s10 fun r h11 hr s11=>?_
    subst hr
    have hs:=touch_s k.p (KK.fBb k c x).1.1.fEa x.fc
    refine aX rfl ?_
    have s12:=cd (l:=[cZ r37 _]) (bc [1,1,1,1,0] s11 rfl)
    have ek:kcl z { k with fNa:=k.fNa.set c (KK.fBb k c x).2,p:=(PK.touch k.p (KK.fBb k c x).1.1.fEa x.fc).2 } = kcl z k:=by
     show [pv z.pp,Value.int .i64 (PK.touch k.p (KK.fBb k c x).1.1.fEa x.fc).2.s.fIa,_,_,_,_,_,_] = _
     rw [hs]
    show aE (blk z.b cj (kcl z _)::_) _
    rw [ek]
    exact s12
  refine aY (fun d2=>?_) (fun d2=>?_)
  ·refine bQ (ku r37 _ (i64.wrap x.fc.e1) (KK.seen k x.fGa (i64.wrap x.fc.e1)).1) (i:=0) rfl s5 fun r h6 hr s6=>j1 _ ?_
   have e1:KK.fGb k x.fGa (i64.wrap x.fc.e1) = (Table.insert (replicate 8 dh) (i64.wrap x.fc.e1) (KK.seen k x.fGa (i64.wrap x.fc.e1)).1).2:=if_pos d2
   rw [e1]; exact s6
  ·have e1:KK.fGb k x.fGa (i64.wrap x.fc.e1) = replicate 8 dh:=if_neg (by rw [d2]; exact Bool.false_ne_true)
   exact j1 _ (by rw [e1]; exact s5)
theorem access_calls (k:KK) (c:Int) (x:KC):(KK.access k c x).2.calls = k.calls:=by
 unfold KK.access
 repeat' split
 all_goals rfl
theorem access_tlen (k:KK) (c:Int) (x:KC):(KK.access k c x).2.fNa.length = k.fNa.length:=by
 unfold KK.access
 repeat' split
 all_goals simp
theorem kz_tlbs {z:KZ} {k k':KK} (zo:KZ.Ok z k) (h1:k'.fNa.length = k.fNa.length) (h2:k'.calls.length = k.calls.length):KZ.Ok z k':=⟨by rw [h1]; exact zo.t,by rw [h2]; exact zo.c⟩
theorem sp_kern_Step (x:Ptr) (k:KK) (c:Int) (hn:k.now < 2 ^ 37):Sp prog mg [pv x,.int .i64 c] aB [cE x k] (fun r=>pa_ (r = (KK.step k c).1) [cE x (KK.step k c).2]):=by
 intro h s0
 refine sim_kern_Kern_Step _ _ ?_
 unfold ud
 refine bQ (lQ x k c) (i:=0) rfl s0 fun r h1 hr s1=>?_
 subst hr
 refine aY (fun d=>?_) (fun d=>?_)
 ·have e1:KK.step k c = (false,k):=if_pos (by simpa using d)
  rw [e1]; exact aX rfl s1
 ·have d':KK.busy k c = true:=by simpa using d
  obtain ⟨hi,y,hy⟩:=busy_is d'
  have e1:KK.step k c = (true,KK.work (KK.tick k) c y):=by unfold KK.step; rw [if_neg (by simp [d']),hy]
  rw [e1]
  obtain ⟨z,rfl,zo,ok,st⟩:=uz s1
  have okt:=kok_tick ok (by omega)
  obtain ⟨n,rfl,hnc⟩:=is_nat hi
  obtain ⟨l1,l2,l3,l4,l5⟩:=kk_len ok
  have hnp:n < z.cp.length:=by rw [zo.c]; exact hnc
  have hcs:=(ci (j:=6) st rfl).1
  have hxn:k.calls[n]? = some (some y):=by rw [aD hnc,← call_nat hnc,hy]
  have hep:=ok.epn
  have hwn:=wrapN ok.n0 (show k.now < 2 ^ 40 by omega)
  refine cD (bn k.now st (i:=0) rfl rfl rfl ?_)
  refine uJ (i:=0) st rfl (le_of_ble_eq_true rfl) fun h2 s2=>?_
  have s3:aE (mv z (KK.tick k)) h2:=s2
  have zot:KZ.Ok z (KK.tick k):=⟨zo.t,zo.c⟩
  have hxt:(KK.tick k).calls[n]? = some (some y):=hxn
  have hyt:KK.call (KK.tick k) n = some y:=hy
  have hit:KK.is (KK.tick k) n = true:=hi
  have hept:((KK.tick k).fFa.1.length:Int) + 1 <= (KK.tick k).now:=by show _ <= i64.wrap (k.now + 1); rw [hwn]; simp only [KK.tick]; omega
  have hnt:(KK.tick k).now <= 2 ^ 37:=by show i64.wrap (k.now + 1) <= _; rw [hwn]; omega
  have okw:=kok_work okt hept hyt hit
  have hnct:n < (KK.tick k).calls.length:=hnc
  generalize KK.tick k = kt at *
  obtain ⟨xb,hp,_⟩:=wd (j:=7) s3 rfl (aD hnp) hxt
  have hpx:z.cp[n]? = some (some (xb,0)):=by rw [aD hnp,hp]
  refine bn z.cs s3 (i:=0) rfl rfl rfl ?_
  refine dn s3 (j:=6) rfl (by omega) (by omega) fun q hq=>?_
  refine dT (j:=6) (i:=n) (k:=0) z.cp[n] gR s3 rfl hq (by simp) (aD hnp) (by simp) ?_
  rw [hp]
  refine cD (ld_c (j:=7) y.fc s3 rfl hpx hxt five ?_)
  refine aY (fun d2=>?_) (fun d2=>?_)
  ·have ew:KK.work kt n y = KK.ends (KK.access kt n y).2 n y (KK.access kt n y).1.1 (KK.access kt n y).1.2:=if_pos d2
   rw [ew]
   have oka:=kok_access okt n y
   have hca:(KK.access kt n y).2.calls = kt.calls:=access_calls _ _ _
   have hta:(KK.access kt n y).2.fNa.length = kt.fNa.length:=access_tlen _ _ _
   refine cQ [0,0,0,0,0,0,0,0,0] (sp_kern_access z kt n xb y hnct hxt hpx zot okt) s3 rfl fun r h4 s4=>?_
   obtain ⟨hr,s5⟩:=bu.1 s4
   subst hr
   refine cQ [0,0,0,0,0,0,0,0,0] (sp_kern_ends z (KK.access kt n y).2 n y (KK.access kt n y).1.1 (KK.access kt n y).1.2 (by rw [hca]; exact hnct) (by rw [hca]; exact hxt) (kz_tlbs zot hta (by rw [hca])) oka) s5 rfl fun r h6 s6=>?_
   exact aX rfl (dC s6)
  ·have d2':¬ bF (ax y.fc).1 = true:=by rw [d2]; exact Bool.false_ne_true
   have j2:∀ b:Bool,(y.fPa = false/\KK.takes kt.p y = true) = False->b = (y.fPa && !(fMa.done kt.fFa y.fAb))->∀ h,aE (mv z kt) h->iW n (fun r=>pa_ (r = true) [cE (some (z.b,0)) (KK.work kt n y)]) (z.b,0) (xb,0) b h:=by
    intro b hno hb h s4
    have ew:KK.work kt n y = (if y.fPa = true/\fMa.done kt.fFa y.fAb = false then kt else if (PK.do_ kt.p y.fGa y.fc).1.2 = true then KK.ends { kt with p:=(PK.do_ kt.p y.fGa y.fc).2 } n y (PK.do_ kt.p y.fGa y.fc).1.1 jJ else { kt with p:=(PK.do_ kt.p y.fGa y.fc).2 }):=by
     unfold KK.work
     rw [if_neg d2',if_neg (by rw [hno]; exact not_false)]
    rw [ew] at okw ⊢
    unfold iW
    refine aY (fun d4=>?_) (fun d4=>?_)
    ·have d4':y.fPa = true/\fMa.done kt.fFa y.fAb = false:=by rw [hb] at d4; simpa using d4
     rw [if_pos d4']
     exact aX rfl (qt zot okt s4)
    ·have d4':¬ (y.fPa = true/\fMa.done kt.fFa y.fAb = false):=by rw [hb] at d4; simpa using d4
     rw [if_neg d4'] at okw ⊢
     refine bn z.pp s4 (i:=0) rfl rfl rfl ?_
     refine ld_c1 (j:=7) y.fGa s4 rfl hpx hxt rfl rfl ?_
     refine ld_c (j:=7) y.fc s4 rfl hpx hxt five ?_
     refine bQ (jP z.pp kt.p y.fGa y.fc) (i:=1) rfl s4 fun r h5 hr s5=>?_
     subst hr
     have hs:=do_s kt.p y.fGa y.fc
     have s6:aE (mv z { kt with p:=(PK.do_ kt.p y.fGa y.fc).2 }) h5:=by
      show aE (blk z.b cj [pv z.pp,Value.int .i64 (PK.do_ kt.p y.fGa y.fc).2.s.fIa,_,_,_,_,_,_]::_) _
      rw [hs]; exact s5
     have okp:=kok_p okt (ok_do okt.p y.fGa y.fc) hs
     refine aY (fun d5=>?_) (fun d5=>?_)
     ·rw [if_pos d5]
      refine cQ [0,0,0,0,0,0,0,0,0] (sp_kern_ends z { kt with p:=(PK.do_ kt.p y.fGa y.fc).2 } n y (PK.do_ kt.p y.fGa y.fc).1.1 jJ hnct hxt ⟨zot.t,zot.c⟩ okp) s6 rfl fun r h7 s7=>?_
      exact aX rfl (dC s7)
     ·rw [if_neg (by rw [d5]; exact Bool.false_ne_true)]
      exact aX rfl (qt (k:={ kt with p:=_ }) ⟨zot.t,zot.c⟩ okp s6)
   refine ld_c1 (j:=7) y.fPa s3 rfl hpx hxt rfl rfl ?_
   refine aY (fun d3=>?_) (fun d3=>?_)
   ·have d3':y.fPa = false:=by simpa using d3
    obtain ⟨xb',hp',s4⟩:=call_out hpx hxt (bc [7] s3 rfl)
    cases hp'
    refine cQ [2,0,1] (sp_kern_takes z.b xb z.pp (kcl z kt) kt.p y rfl rfl) s4 rfl fun r h5 s5=>?_
    obtain ⟨hr,s6⟩:=bu.1 s5
    subst hr
    unfold iX
    refine aY (fun d4=>?_) (fun d4=>?_)
    ·have ew:KK.work kt n y = KK.send (KK.clean (KK.tell kt n y) n) n y:=by unfold KK.work; rw [if_neg d2',if_pos ⟨d3',d4⟩]
     rw [ew] at okw ⊢
     refine uJ (i:=1) s6 rfl (le_of_ble_eq_true rfl) fun h7 s7=>?_
     have s8:=call_in (y:={ y with fPa:=true }) hpx hnct zot.c (bc [1,2] s7 rfl)
     have s9:aE (mv z (KK.tell kt n y)) h7:=bc [1,1,1,1,1,1,1,0,0] s8 rfl
     have okl:KK.Ok (KK.tell kt n y):=kok_call okt n hyt (y:={ y with fPa:=true }) rfl rfl
     have hll:n < (KK.tell kt n y).calls.length:=by simpa [KK.tell] using hnct
     have zol:KZ.Ok z (KK.tell kt n y):=⟨zot.t,by simpa [KK.tell] using zot.c⟩
     refine cQ [0,0,0,0,0,0,0,0,0] (sp_kern_clean z (KK.tell kt n y) n hll zol okl) s9 rfl fun r h10 s10=>?_
     have s11:=dC s10
     have hcc:(KK.clean (KK.tell kt n y) n).calls[n]? = some (some { y with fPa:=true }):=by simp [KK.clean,KK.tell,hnct]
     have okc:=kok_clean okl n
     have zoc:KZ.Ok z (KK.clean (KK.tell kt n y) n):=⟨by simpa [KK.clean] using zol.t,zol.c⟩
     have hepc:((KK.clean (KK.tell kt n y) n).fFa.1.length:Int) + 1 <= kt.now:=hept
     have hbx:=okc.bx
     have htl:(KK.clean (KK.tell kt n y) n).calls = kt.calls.set n (some { y with fPa:=true }):=rfl
     have hnow:(KK.clean (KK.tell kt n y) n).now = kt.now:=rfl
     generalize KK.clean (KK.tell kt n y) n = kc at *
     have hncc:n < kc.calls.length:=by rw [htl]; simpa using hnct
     refine bn z.pe s11 (i:=0) rfl rfl rfl ?_
     refine bQ (sp_epoch_Begin z.pe kc.fFa n (by omega)) (i:=5) rfl s11 fun r h12 hr s12=>?_
     subst hr
     obtain ⟨xb',hp',s13⟩:=call_out hpx hcc (bc [7] s12 rfl)
     cases hp'
     refine uJ (i:=0) s13 rfl (le_of_ble_eq_true rfl) fun h14 s14=>?_
     have s15:=call_in (y:={ y with fPa:=true,fAb:=(fMa.begin_ kc.fFa n).1.1 }) hpx hncc zoc.c s14
     refine bn z.pm s15 (i:=1) rfl rfl rfl ?_
     have hxe:(kc.calls.set n (some { y with fPa:=true,fAb:=(fMa.begin_ kc.fFa n).1.1 }))[n]? = some (some { y with fPa:=true,fAb:=(fMa.begin_ kc.fFa n).1.1 }):=by simp [hncc]
     refine ld_c1 (j:=0) (fMa.begin_ kc.fFa n).1.1 s15 rfl hpx hxe rfl rfl ?_
     have he:fMa.is kc.fFa n = true:=by
      unfold fMa.is
      have:=okc.el
      have:=okc.cl
      exact decide_eq_true (by omega)
     have eb:(fMa.begin_ kc.fFa n).1.1 = (kc.fFa.1.length:Int) + 1:=by unfold fMa.begin_; rw [if_pos he]
     refine bQ (sp_mail_All z.pm kc.fJa n (fMa.begin_ kc.fFa n).1.1 ?_) (i:=5) rfl s15 fun r h16 hr s16=>?_
     ·intro l hl
      rw [eb]
      exact box_fit (hbx l hl) (by omega)
     ·refine aX rfl (qt (k:=KK.send kc n y) ⟨zoc.t,by simpa [KK.send] using zoc.c⟩ okw (bc [1,1,1,1,1,1,1,0,0] s16 rfl))
    ·have hno:(y.fPa = false/\KK.takes kt.p y = true) = False:=by simp [d4]
     have s8:=call_in (y:=y) hpx hnct zot.c (bc [1,2] s6 rfl)
     rw [iK hxt] at s8
     have s9:aE (mv z kt) h5:=bc [1,1,1,1,1,1,1,0,0] s8 rfl
     refine ld_c1 (j:=7) y.fPa s9 rfl hpx hxt rfl rfl ?_
     refine dp d3' ?_
     exact j2 false hno (by rw [d3']; rfl) _ s9
   ·have d3':y.fPa = true:=by simpa using d3
    unfold iX
    refine dp rfl ?_
    refine ld_c1 (j:=7) y.fPa s3 rfl hpx hxt rfl rfl ?_
    refine dN d3' ?_
    refine bn z.pe s3 (i:=0) rfl rfl rfl ?_
    refine ld_c1 (j:=7) y.fAb s3 rfl hpx hxt rfl rfl ?_
    refine bQ (sp_epoch_Done z.pe kt.fFa y.fAb) (i:=5) rfl s3 fun r h4 hr s4=>?_
    subst hr
    exact j2 _ (by simp [d3']) (by rw [d3']; rfl) _ s4
theorem sp_kern_Post (x:Ptr) (k:KK) (c:Int) (hn:k.now < 2 ^ 37):Sp prog qb [pv x,.int .i64 c] aB [cE x k] (fun r=>pa_ (r = (KK.post k c).1) [cE x (KK.post k c).2]):=by
 intro h s0
 refine sim_kern_Kern_Post _ _ ?_
 unfold ue
 refine bQ (ww x k c) (i:=0) rfl s0 fun r h1 hr s1=>?_
 subst hr
 refine aY (fun d=>?_) (fun d=>?_)
 ·have e1:KK.post k c = (false,k):=if_pos (by simpa using d)
  rw [e1]; exact aX rfl s1
 ·have d':KK.is k c = true:=by simpa using d
  obtain ⟨z,rfl,zo,ok,st⟩:=uz s1
  have okp:=kok_post ok (by omega) c
  obtain ⟨n,rfl,hnc⟩:=is_nat d'
  refine cD (bn z.pm st (i:=0) rfl rfl rfl ?_)
  refine bQ (sp_mail_Take z.pm k.fJa n) (i:=4) rfl st fun r h2 hr s2=>?_
  subst hr
  refine aY (fun d2=>?_) (fun d2=>?_)
  ·have d2':(Mail.take k.fJa n).1.2 = false:=by simpa using d2
   have e1:KK.post k n = (false,k):=by unfold KK.post; rw [if_neg (by simp [d']),if_pos d2']
   have e2:(Mail.take k.fJa n).2 = k.fJa:=by
    unfold Mail.take at d2' ⊢; split
    ·rfl
    ·rename_i hh; rw [if_neg hh] at d2'; cases d2'
   rw [e1]
   rw [e2] at s2
   exact aX rfl (qt zo ok s2)
  ·have e1:KK.post k n = (true,{ KK.clean { KK.tick k with fJa:=(Mail.take k.fJa n).2 } n with fFa:=(fMa.ack k.fFa n (Mail.take k.fJa n).1.1).2 }):=by
    unfold KK.post; rw [if_neg (by simp [d']),if_neg (by simpa using d2)]
   rw [e1] at okp ⊢
   refine bn k.now s2 (i:=0) rfl rfl rfl ?_
   refine uJ (i:=0) s2 rfl (le_of_ble_eq_true rfl) fun h3 s3=>?_
   have s4:aE (mv z { KK.tick k with fJa:=(Mail.take k.fJa n).2 }) h3:=s3
   have okt:=kok_tick ok (by omega)
   have hbl:(Mail.take k.fJa n).2.length = k.fJa.length:=by unfold Mail.take; split <;> simp
   have hb:∀ l ∈ (Mail.take k.fJa n).2,mw k.fFa.1.length l:=by
    unfold Mail.take; split
    ·exact ok.bx
    ·exact boxes_set ok.bx _ (box_drop (box_of ok.bx n))
   have ok2:KK.Ok { KK.tick k with fJa:=(Mail.take k.fJa n).2 }:=⟨okt.p,okt.tl,by simp only [hbl]; exact ok.bl,okt.el,okt.cl,okt.cs,okt.n0,okt.evn,okt.epn,hb⟩
   refine cQ [0,0,0,0,0,0,0,0,0] (sp_kern_clean z { KK.tick k with fJa:=(Mail.take k.fJa n).2 } n hnc ⟨zo.t,zo.c⟩ ok2) s4 rfl fun r h5 s5=>?_
   have s6:=dC s5
   refine bn z.pe s6 (i:=0) rfl rfl rfl ?_
   refine bQ (sp_epoch_Ack z.pe k.fFa n _) (i:=5) rfl s6 fun r h7 hr s7=>?_
   refine aX rfl (qt (z:=z) ⟨?_,zo.c⟩ okp s7)
   simpa [KK.clean,KK.tick] using zo.t
theorem sp_kern_Mail (x:Ptr) (k:KK) (c:Int):Sp prog qc [pv x,.int .i64 c] eA [cE x k] (fun r=>pa_ (r = KK.mail k c) [cE x k]):=by
 intro h s0
 refine sim_kern_Kern_Mail _ _ ?_
 unfold uf
 refine bQ (ww x k c) (i:=0) rfl s0 fun r h1 hr s1=>?_
 subst hr
 refine aY (fun d=>?_) (fun d=>?_)
 ·exact aX (by unfold KK.mail; rw [if_neg (by simpa using d)]) s1
 ·obtain ⟨z,rfl,zo,ok,st⟩:=uz s1
  refine cD (bn z.pm st (i:=0) rfl rfl rfl ?_)
  refine bQ (sp_mail_Waits z.pm k.fJa c) (i:=4) rfl st fun r h2 hr s2=>?_
  exact aX (by unfold KK.mail; rw [if_pos (by simpa using d),hr]) (qt zo ok s2)
theorem sp_slices_CloneE (s:Sl) (xs:List bk) (hb:xs.length < 2 ^ 38):Sp prog eR [sv s] eu [vE s xs] (fun r=>aE [vE r xs,vE s xs]):=by
 intro h s0
 refine my _ ?_
 unfold gX
 refine aY (fun k=>?_) (fun k=>?_)
 ·have hn:xs = []:=by
   obtain ⟨_,⟨e1,e2,e3⟩,_⟩:=dP (i:=0) rfl s0
   rcases e3 with e3 | ⟨b,pre,rest,U,fr,h4,_⟩
   ·exact List.eq_nil_of_length_eq_zero (by omega)
   ·rw [h4] at k; cases k
  subst hn
  exact fL s0
 ·refine eN (τ:=bk) [] (val:=fun x=>.agg x.C.toArray) (enc:=aF.C) qu mE (fun _=>rfl) s0 rfl rfl (by simp) fun y h' s1=>?_
  refine tC (τ:=bk) (i:=0) (j:=1) (enc:=aF.C) (xs:=[]) (ys:=xs) qu qu.sl mE ev_one s1 rfl rfl (by omega) (by simp; omega) (by simp; omega) fun v h2 s2=>?_
  exact s2
theorem sF (x:Ptr) (k:KK) (hb:k.now < 2 ^ 38):Sp prog fS [pv x] eu [cE x k] (fun r=>aE [vE r k.events,cE x k]):=by
 intro h s0
 obtain ⟨z,rfl,zo,ok,st⟩:=uz s0
 have:=ok.evn
 refine sim_kern_Kern_Events _ ?_
 unfold rH
 refine dp rfl (cD (bn z.es st (i:=0) rfl rfl rfl ?_))
 refine xB (sp_slices_CloneE z.es k.events (by omega)) (i:=8) rfl st fun r h1 s1=>?_
 exact star_tail s1 fun h2 s2=>qt zo ok s2
end
section
open Go Mb
def eX (a0:Ptr) (Rec7:(Bool × Int)->Hp->Prop) (s6:Bool × Int) (s11:Unit):Hp->Prop:=cl prog eW [(pv a0),(.int .i64 s6.2)] aB fun r37=>cl prog eW [(pv a0),(.int .i64 s6.2)] aB fun r43=>br r43 ( cl prog mg [(pv a0),(.int .i64 s6.2)] aB fun r46=>Rec7 ((r37 || s6.1),(i64.wrap (s6.2 + 1)))) ( Rec7 ((r37 || s6.1),(i64.wrap (s6.2 + 1))))
def gt (a0:Ptr) (Rec7:(Bool × Int)->Hp->Prop) (s6:Bool × Int) (Rec20:Int->Hp->Prop) (s19:Int):Hp->Prop:=br (decide (s19 < 5000)) ( cl prog qc [(pv a0),(.int .i64 s6.2)] eA fun r27=>br (decide (r27 > 0)) ( cl prog qb [(pv a0),(.int .i64 s6.2)] aB fun r34=>Rec20 (i64.wrap (s19 + 1))) ( eX a0 Rec7 s6 ())) ( eX a0 Rec7 s6 ())
def gu (a0:Ptr) (a1:Int) (K:Bool->Hp->Prop) (Rec2:Int->Hp->Prop) (s1:Int) (Rec7:(Bool × Int)->Hp->Prop) (s6:Bool × Int):Hp->Prop:=br (decide (s6.2 < a1)) ( Lp (gt a0 Rec7 s6) 0) ( br (!s6.1) ( K true) ( Rec2 (i64.wrap (s1 + 1))))
def gr (a0:Ptr) (a1:Int) (K:Bool->Hp->Prop) (Rec34:Int->Hp->Prop) (s33:Int):Hp->Prop:=br (decide (s33 < a1)) ( cl prog eW [(pv a0),(.int .i64 s33)] aB fun r56=>br r56 ( K false) ( Rec34 (i64.wrap (s33 + 1)))) ( K true)
def jI (a0:Ptr) (a1:Int) (a2:Int) (K:Bool->Hp->Prop) (Rec2:Int->Hp->Prop) (s1:Int):Hp->Prop:=br (decide (s1 < a2)) ( Lp (gu a0 a1 K Rec2 s1) (false,0)) ( Lp (gr a0 a1 K) 0)
def nM (a0:Ptr) (a1:Int) (a2:Int) (K:Bool->Hp->Prop):Hp->Prop:=Lp (jI a0 a1 a2 K) 0
theorem uP (a0:Ptr) (a1:Int) (a2:Int) {K:Bool->Hp->Prop} {h:Hp} (H:nM a0 a1 a2 K h):cl prog fy [(pv a0),(.int .i64 a1),(.int .i64 a2)] aB K h:=z_i func29 p p fun _=>O<|U p<|am<|O<|U p<|az<|bC (step:=jI a0 a1 a2 K) (fun s1=>[(0,(pv a0)),(1,(.int .i64 a1)),(2,(.int .i64 a2)),(7,(.int .i64 s1))]) (fun s1=>[]) H (.cons p<|.cons p<|.cons p<|.cons p<|.nil _) .slnil fun Rec2 s1 _ H3=>am<|O<|M p<|M p<|J (cu p p)<|ae<|aw p H3 (fun k4 H5=>ap<|am<|az<|O<|U p<|am<|O<|U p<|az<|bC (step:=gu a0 a1 K Rec2 s1) (fun s6=>[(0,(pv a0)),(1,(.int .i64 a1)),(2,(.int .i64 a2)),(7,(.int .i64 s1)),(8,(.bool s6.1)),(9,(.int .i64 s6.2))]) (fun s6=>[]) H5 (.cons p<|.cons p<|.cons p<|.cons p<|.cons p<|.cons p<|.nil _) .slnil fun Rec7 s6 _ H8=>am<|O<|M p<|M p<|J (cu p p)<|ae<|aw p H8 (fun k9 H10=>ap<|am<|az<|eq (eX a0 Rec7 s6) (fun s11=>[(0,(pv a0)),(1,(.int .i64 a1)),(2,(.int .i64 a2)),(7,(.int .i64 s1)),(8,(.bool s6.1)),(9,(.int .i64 s6.2))]) (fun s11=>[]) (O<|U p<|az<|bC (step:=gt a0 Rec7 s6) (fun s19=>[(0,(pv a0)),(1,(.int .i64 a1)),(2,(.int .i64 a2)),(7,(.int .i64 s1)),(8,(.bool s6.1)),(9,(.int .i64 s6.2)),(10,(.int .i64 s19))]) (fun s19=>[]) H10 (.cons p<|.cons p<|.cons p<|.cons p<|.cons p<|.cons p<|.cons p<|.nil _) .slnil fun Rec20 s19 _ H21=>am<|O<|M p<|J (cu p p)<|M p<|W p p (ay _) (fun g22=>wv<|aj p)<|W p p (ay _) (fun g23=>wv<|aj p)<|bU H21 (fun k25 H26=>G (F k25)<|gc H26 en_73 (aR (aC p k25)<|aR (aC p k25) bO) p fun r27 _ H27=>G (F k25)<|z_p (qA p p)<|J (aT p k25 p)<|ae<|aw p H27 (fun k28 H29=>ap<|am<|az<|aq<|M p<|M p<|aa<|D H29 en_46 fun r34 _ H30=>ae<|aq<|M p<|J (bo p p)<|U p<|cL (i64.wrap (s19 + 1)) H30 (.cons p<|.cons p<|.cons p<|.cons p<|.cons p<|.cons p<|.cons p<|.nil _) .slnil) fun k28 H29=>bj<|cF () H29 (.cons p<|.cons p<|.cons p<|.cons p<|.cons p<|.cons p<|.nil _) .slnil) fun k25 H26=>Y (aU k25)<|Y (aU k25)<|J (au p k25 p)<|ae<|ev_no p p<|bj<|cF () H26 (.cons p<|.cons p<|.cons p<|.cons p<|.cons p<|.cons p<|.nil _) .slnil) fun s11 _ H12=>O<|M p<|M p<|aa<|D H12 en_31 fun r37 _ H13=>M p<|W p p (aI _) (fun g14=>wv<|aj p)<|J (dr p p)<|U p<|O<|M p<|M p<|aa<|D H13 en_31 fun r43 _ H15=>ae<|aw p H15 (fun k16 H17=>aq<|M p<|M p<|aa<|D H17 en_28 fun r46 _ H18=>ae<|aq<|M p<|J (bo p p)<|U p<|cL ((r37 || s6.1),(i64.wrap (s6.2 + 1))) H18 (.cons p<|.cons p<|.cons p<|.cons p<|.cons p<|.cons p<|.nil _) .slnil) fun k16 H17=>ap<|aq<|M p<|J (bo p p)<|U p<|cL ((r37 || s6.1),(i64.wrap (s6.2 + 1))) H17 (.cons p<|.cons p<|.cons p<|.cons p<|.cons p<|.cons p<|.nil _) .slnil) fun k9 H10=>bj<|O<|M p<|J (ct p)<|ae<|aw p H10 (fun k31 H32=>O<|U p<|ak<|Z ⟨true,p,H32⟩) fun k31 H32=>ap<|aq<|M p<|J (bo p p)<|U p<|cL (i64.wrap (s1 + 1)) H32 (.cons p<|.cons p<|.cons p<|.cons p<|.nil _) .slnil) fun k4 H5=>bj<|am<|O<|U p<|az<|bC (step:=gr a0 a1 K) (fun s33=>[(0,(pv a0)),(1,(.int .i64 a1)),(11,(.int .i64 s33))]) (fun s33=>[]) H5 (.cons p<|.cons p<|.cons p<|.nil _) .slnil fun Rec34 s33 _ H35=>am<|O<|M p<|M p<|J (cu p p)<|ae<|aw p H35 (fun k36 H37=>ap<|am<|az<|O<|M p<|M p<|aa<|D H37 en_31 fun r56 _ H38=>ae<|aw p H38 (fun k39 H40=>O<|U p<|ak<|Z ⟨false,p,H40⟩) fun k39 H40=>ap<|aq<|M p<|J (bo p p)<|U p<|cL (i64.wrap (s33 + 1)) H40 (.cons p<|.cons p<|.cons p<|.nil _) .slnil) fun k36 H37=>bj<|O<|U p<|ak<|Z ⟨true,p,H37⟩
def gf (a1:Int) (K:(ab × Bool)->Hp->Prop) (r24:Sl) (Rec9:(Int × ab)->Hp->Prop) (s8:Int × ab):Hp->Prop:=br (decide (s8.1 >= 0)) ( ix r24 s8.1 fun q34=>ld (q34.1,q34.2 + Int.toNat s8.1 * 16 + 0) (cI .i64) fun x36=>br (x36 == a1) ( both ( ld (q34.1,q34.2 + Int.toNat s8.1 * 16 + 10) ab.C fun x43=>ld (q34.1,q34.2 + Int.toNat s8.1 * 16 + 9) (cI .i64) fun x48=>K (x43,(decide (x48 > 0)))) ( ld (q34.1,q34.2 + Int.toNat s8.1 * 16 + 9) (cI .i64) fun x48=>ld (q34.1,q34.2 + Int.toNat s8.1 * 16 + 10) ab.C fun x43=>K (x43,(decide (x48 > 0))))) ( Rec9 ((i64.wrap (s8.1 - 1)),s8.2))) ( K ((⟨0,0⟩:ab),false))
def qO (a0:Ptr) (a1:Int) (a2:Int) (a3:ai) (K:(ab × Bool)->Hp->Prop):Hp->Prop:=cl prog kW [(pv a0),(.int .i64 a1),(.int .i64 a2),(.agg (ai.C a3).toArray)] aB fun r16=>br (!r16) ( K ((⟨0,0⟩:ab),false)) ( cl prog fy [(pv a0),(.int .i64 8),(.int .i64 1000)] aB fun r20=>br (!r20) ( K ((⟨0,0⟩:ab),false)) ( cl prog fS [(pv a0)] eu fun r24=>Lp (gf a1 K r24) ((i64.wrap ((r24.len:Int) - 1)),(⟨0,0⟩:ab))))
theorem sim_messuagelaw16_Run (a0:Ptr) (a1:Int) (a2:Int) (a3:ai) {K:(ab × Bool)->Hp->Prop} {h:Hp} (H:qO a0 a1 a2 a3 K h):cl prog de [(pv a0),(.int .i64 a1),(.int .i64 a2),(.agg (ai.C a3).toArray)] bd K h:=z_i func16 p p fun _=>O<|aa<|cK (l:=ai.C a3) p p p fun b7=>aa<|aN (l:=ab.C (⟨0,0⟩:ab)) cY p p fun b8=>U p<|am<|O<|M p<|M p<|M p<|bi (bD (k:=1) ff p p p p) p<|aa<|D H en_27 fun r16 _ H1=>J (ct p)<|ae<|aw p H1 (fun k2 H3=>O<|J (aZ (vs:=[]) p tA)<|aa<|aQ (k:=0) (vs:=ab.C (⟨0,0⟩:ab)) bL p p p p p p p<|U p<|ak<|bz (bT p (bE (k:=0) p cz p p)<|cc p) ⟨((⟨0,0⟩:ab),false),p,H3⟩) fun k2 H3=>ap<|am<|O<|M p<|aa<|D H3 en_29 fun r20 _ H4=>J (ct p)<|ae<|aw p H4 (fun k5 H6=>O<|J (aZ (vs:=[]) p tA)<|aa<|aQ (k:=0) (vs:=ab.C (⟨0,0⟩:ab)) bL p p p p p p p<|U p<|ak<|bz (bT p (bE (k:=0) p cz p p)<|cc p) ⟨((⟨0,0⟩:ab),false),p,H6⟩) fun k5 H6=>ap<|O<|M p<|aa<|D H6 en_20 fun r24 _ H7=>U p<|am<|O<|M p<|J (dv p underlying42 p)<|J (v_sub p p)<|U p<|az<|bC (step:=gf a1 K r24) (fun s8=>[(1,(.int .i64 a1)),(8,(.pointer (some ⟨b8,0,none⟩))),(10,(sv r24)),(11,(.int .i64 s8.1))]) (fun s8=>[bx b8 30 (ab.C s8.2)]) H7 (.cons p<|.cons p<|.cons p<|.cons p<|.nil _) (.cons_cons _<|.cons _ .slnil) fun Rec9 s8 _ H10=>am<|O<|M p<|J (jx p p)<|ae<|aw p H10 (fun k11 H12=>ap<|am<|az<|O<|M p<|M p<|ch H12 fun q34 e13 h14 H15=>J (bm re (aM p<|ba e13) p h14)<|J (ah tm p)<|aa<|aV H15 bb p (fun _=>p) p fun x36 H16=>M p<|J (bR p p)<|ae<|aw p H16 (fun k17 H18=>am<|bp (n:=13) [] cr p (.cons _ .slnil)<|V 0 p (aj p)<|V 1 p (aj p)<|V 2 p (bm re (aM p<|ba e13) p h14)<|V 3 p (ah gK p)<|V 5 p (aj p)<|V 6 p (aj p)<|V 7 p (bm re (aM p<|ba e13) p h14)<|V 8 p (ah qV p)<|jK H18 fun H19_1 H19_2=>jL (i:=4) (j:=9) (by kernel_rfl) (cC p p<|gA H19_1 cz p (fun _=>p) p fun x43 H20=>⟨.cons _ .slnil,jL (i:=9) (j:=11) (by kernel_rfl) (cC p p<|aV H20 bb p (fun _=>p) p fun x48 H22=>⟨.cons _ .slnil,V 10 p (qA p p)<|I 11 p<|aQ (k:=0) (vs:=ab.C x43) bL p p p p p p p ⟨.cons _ .slnil,V 12 p (av p)<|aW (by kernel_rfl)<|ak<|bz (bT p (bE (k:=0) p cz p p)<|cc p) ⟨(x43,(decide (x48 > 0))),p,H22⟩⟩⟩)<|cC p p<|aQ (k:=0) (vs:=ab.C x43) bL p p p p p p p ⟨.cons _ .slnil,bJ (i:=9) (fun _ _ _ _ hh=>hh) H20 p (by kernel_rfl) bb p (fun _=>p) p fun x48 H22=>V 10 p (qA p p)<|V 12 p (av p)<|aW (by kernel_rfl)<|ak<|bz (bT p (bE (k:=0) p cz p p)<|cc p) ⟨(x43,(decide (x48 > 0))),p,H22⟩⟩⟩)<|cC p p<|aV H19_2 bb p (fun _=>p) p fun x48 H20=>⟨.cons _ .slnil,V 10 p (qA p p)<|xq (i:=4) (fun _ _ _ _ hh=>hh) H20 p (by kernel_rfl) cz p (fun _=>p) p fun x43 H21=>I 11 p<|aQ (k:=0) (vs:=ab.C x43) bL p p p p p p p ⟨.cons _ .slnil,V 12 p (av p)<|aW (by kernel_rfl)<|ak<|bz (bT p (bE (k:=0) p cz p p)<|cc p) ⟨(x43,(decide (x48 > 0))),p,H21⟩⟩⟩) fun k17 H18=>ap<|aq<|M p<|J (v_sub p p)<|U p<|cL ((i64.wrap (s8.1 - 1)),s8.2) H18 (.cons p<|.cons p<|.cons p<|.cons p<|.nil _)<|.cons_cons _ .slnil) fun k11 H12=>bj<|O<|J (aZ (vs:=[]) p tA)<|aa<|aQ (k:=0) (vs:=ab.C (⟨0,0⟩:ab)) bL p p p p p p p<|U p<|ak<|bz (bT p (bE (k:=0) p cz p p)<|cc p) ⟨((⟨0,0⟩:ab),false),p,H12⟩
def oA (K:Bool->Hp->Prop):Hp->Prop:=cl prog xe [(.agg (aJ.C (⟨2,2,3⟩:aJ)).toArray)] ko fun r21=>br r21.isNone ( K false) ( cl prog de [(pv r21),(.int .i64 0),(.int .i64 0),(.agg (ai.C (⟨1,1,0,0,0⟩:ai)).toArray)] bd fun r27=>cl prog de [(pv r21),(.int .i64 0),(.int .i64 0),(.agg (ai.C (⟨6,4,1,3,0⟩:ai)).toArray)] bd fun r33=>cl prog de [(pv r21),(.int .i64 1),(.int .i64 0),(.agg (ai.C (⟨21,4,2,9,0⟩:ai)).toArray)] bd fun r39=>cl prog de [(pv r21),(.int .i64 0),(.int .i64 0),(.agg (ai.C (⟨20,4,2,0,0⟩:ai)).toArray)] bd fun r45=>cl prog de [(pv r21),(.int .i64 0),(.int .i64 0),(.agg (ai.C (⟨7,4,0,0,0⟩:ai)).toArray)] bd fun r51=>cl prog fS [(pv r21)] eu fun r55=>cl prog oM [(sv r55),(.agg (aJ.C (⟨2,2,3⟩:aJ)).toArray)] bM fun r59=>cl prog oN [(sv r55),(.agg (aJ.C (⟨2,2,3⟩:aJ)).toArray)] bM fun r65=>cl prog uU [(.int .i64 2),(.int .i64 3)] oe fun r68=>cl prog kJ [] aB fun r69=>br (((((((((((((((r69 && r27.2) && r33.2) && r39.2) && r45.2) && r51.2) && (r27.1.fXa == 0)) && (r33.1.fXa == 0)) && (r39.1.fXa == 0)) && (r45.1.fHb == 9)) && (r51.1.fXa == 0)) && ((r55.len:Int) == 5)) && (r59.1 == (-1))) && r59.2) && (r65.1 == (-1))) && r65.2) ( cl prog xf [(sv r55),(.agg (aJ.C (⟨2,2,3⟩:aJ)).toArray)] aB fun r132=>br r132 ( cl prog oO [(sv r55)] cx fun r136=>br (((r136.len:Int) == 5) && ((r68.len:Int) == 12)) ( cl prog n_fair_Fair [(sv r68),(.int .i64 2),(.int .i64 5)] aB fun r147=>br r147 ( cl prog n_twin_View [(sv r55),(.int .i64 0)] mZ fun r151=>br ((r151.len:Int) == 5) ( cl prog uT [(sv r55),(.agg (aJ.C (⟨2,2,3⟩:aJ)).toArray)] aB fun r158=>K r158) ( K false)) ( K false)) ( K false)) ( K false)) ( K false))
theorem vj {K:Bool->Hp->Prop} {h:Hp} (H:oA K h):cl prog kH [] aB K h:=z_i func14 p p fun _=>O<|U p<|O<|J (aZ p<|tB 2 2 3)<|aa<|aN (l:=aJ.C (⟨0,0,0⟩:aJ)) zero_25 p p fun b1=>aa<|aQ (k:=0) (vs:=aJ.C (⟨2,2,3⟩:aJ)) inf_25 p p p p p p p<|ae<|O<|bi (bD (k:=0) qZ p p p p) p<|aa<|D H en_23 fun r21 _ H1=>U p<|am<|O<|M p<|J (cm underlying26 p)<|ae<|aw p H1 (fun k2 H3=>O<|U p<|ak<|Z ⟨false,p,H3⟩) fun k2 H3=>ap<|O<|M p<|J (aZ p<|kl 1 1)<|aa<|D H3 en_16 fun r27 _ H4=>M p<|J (al p p)<|J (al p p)<|aa<|aN (l:=ab.C (⟨0,0⟩:ab)) cY p p fun b3=>aa<|aQ (k:=0) (vs:=ab.C r27.1) bL p p p p p p p<|U p<|O<|M p<|J (aZ p<|fe 6 4 1 3)<|aa<|D H4 en_16 fun r33 _ H5=>M p<|J (al p p)<|J (al p p)<|aa<|aN (l:=ab.C (⟨0,0⟩:ab)) cY p p fun b5=>aa<|aQ (k:=0) (vs:=ab.C r33.1) bL p p p p p p p<|U p<|O<|M p<|J (aZ p<|fe 21 4 2 9)<|aa<|D H5 en_16 fun r39 _ H6=>M p<|J (al p p)<|J (al p p)<|aa<|aN (l:=ab.C (⟨0,0⟩:ab)) cY p p fun b7=>aa<|aQ (k:=0) (vs:=ab.C r39.1) bL p p p p p p p<|U p<|O<|M p<|J (aZ p<|oY 20 4 2)<|aa<|D H6 en_16 fun r45 _ H7=>M p<|J (al p p)<|J (al p p)<|aa<|aN (l:=ab.C (⟨0,0⟩:ab)) cY p p fun b9=>aa<|aQ (k:=0) (vs:=ab.C r45.1) bL p p p p p p p<|U p<|O<|M p<|J (aZ p<|kl 7 4)<|aa<|D H7 en_16 fun r51 _ H8=>M p<|J (al p p)<|J (al p p)<|aa<|aN (l:=ab.C (⟨0,0⟩:ab)) cY p p fun b11=>aa<|aQ (k:=0) (vs:=ab.C r51.1) bL p p p p p p p<|U p<|O<|M p<|aa<|D H8 en_20 fun r55 _ H9=>U p<|O<|M p<|bi (bD (k:=5) qZ p p p p) p<|aa<|D H9 en_47 fun r59 _ H10=>M p<|J (al p p)<|J (al p p)<|J (av p)<|U p<|O<|M p<|bi (bD (k:=5) qZ p p p p) p<|aa<|D H10 en_48 fun r65 _ H11=>M p<|J (al p p)<|J (al p p)<|J (av p)<|U p<|O<|aa<|D H11 en_49 fun r68 _ H12=>U p<|O<|aa<|D H12 en_50 fun r69 _ H13=>M p<|W p p (ay _) (fun g14=>wv<|aj p)<|J (bP p p)<|M p<|W p p (ay _) (fun g15=>wv<|aj p)<|J (bP p p)<|M p<|W p p (ay _) (fun g16=>wv<|aj p)<|J (bP p p)<|M p<|W p p (ay _) (fun g17=>wv<|aj p)<|J (bP p p)<|M p<|W p p (ay _) (fun g18=>wv<|aj p)<|J (bP p p)<|M p<|W p p (ay _) (fun g19=>wv<|ah iZ p)<|W p p (ay _) (fun g20=>cv<|be (k:=4) mT (aC p g20) p p)<|W p p (ay _) (fun g21=>wv<|bR (aC p g21) p)<|J (bP p p)<|M p<|W p p (ay _) (fun g22=>wv<|ah iZ p)<|W p p (ay _) (fun g23=>cv<|be (k:=3) mT (aC p g23) p p)<|W p p (ay _) (fun g24=>wv<|bR (aC p g24) p)<|J (bP p p)<|M p<|W p p (ay _) (fun g25=>wv<|ah iZ p)<|W p p (ay _) (fun g26=>cv<|be (k:=2) mT (aC p g26) p p)<|W p p (ay _) (fun g27=>wv<|bR (aC p g27) p)<|J (bP p p)<|M p<|W p p (ay _) (fun g28=>wv<|ah vR p)<|W p p (ay _) (fun g29=>cv<|be (k:=1) cn (aC p g29) p p)<|W p p (ay _) (fun g30=>wv<|bR (aC p g30) p)<|J (bP p p)<|M p<|W p p (ay _) (fun g31=>wv<|ah iZ p)<|W p p (ay _) (fun g32=>cv<|be (k:=0) mT (aC p g32) p p)<|W p p (ay _) (fun g33=>wv<|bR (aC p g33) p)<|J (bP p p)<|M p<|W p p (ay _) (fun g34=>wv<|aj p)<|W p p (ay _) (fun g35=>wv<|dv p underlying42<|aC p g35)<|W p p (ay _) (fun g36=>wv<|bR (aC p g36) p)<|J (bP p p)<|M p<|W p p (ay _) (fun g37=>wv<|aj p)<|W p p (ay _) (fun g38=>wv<|bR (aC p g38) p)<|J (bP p p)<|M p<|W p p (ay _) (fun g39=>wv<|aj p)<|J (bP p p)<|M p<|W p p (ay _) (fun g40=>wv<|aj p)<|W p p (ay _) (fun g41=>wv<|bR (aC p g41) p)<|J (bP p p)<|M p<|W p p (ay _) (fun g42=>wv<|aj p)<|J (bP p p)<|M p<|W p p (ay _) (fun g43=>wv<|aj p)<|W p p (ay _) (fun g44=>cv<|bD (k:=5) qZ p p p p)<|bU H13 (fun k46 H47=>G (F k46)<|gc H47 en_25 (aR (aC p k46)<|aR (aC p k46) bO) p fun r132 _ H48=>J (aT p k46 p)<|M p<|W p p (ay _) (fun g49=>wv<|aj p)<|bU H48 (fun k51 H52=>G (F k51)<|gc H52 en_44 (aR (aC p k51) bO) p fun r136 _ H53=>G (F k51)<|z_p (dv p underlying39 p)<|G (F k51)<|z_p (bR p p)<|J (aT p k51 p)<|M p<|W p p (ay _) (fun g54=>wv<|aj p)<|W p p (ay _) (fun g55=>wv<|dv p underlying45<|aC p g55)<|W p p (ay _) (fun g56=>wv<|bR (aC p g56) p)<|J (bP p p)<|M p<|W p p (ay _) (fun g57=>wv<|aj p)<|bU H53 (fun k59 H60=>G (F k59)<|gc H60 en_51 (aR (aC p k59)<|aR p<|aR p bO) p fun r147 _ H61=>J (aT p k59 p)<|M p<|W p p (ay _) (fun g62=>wv<|aj p)<|bU H61 (fun k64 H65=>G (F k64)<|gc H65 en_52 (aR (aC p k64)<|aR p bO) p fun r151 _ H66=>G (F k64)<|z_p (dv p underlying101 p)<|G (F k64)<|z_p (bR p p)<|J (aT p k64 p)<|M p<|W p p (ay _) (fun g67=>wv<|aj p)<|W p p (ay _) (fun g68=>cv<|bD (k:=5) qZ p p p p)<|bU H66 (fun k70 H71=>G (F k70)<|gc H71 en_19 (aR (aC p k70)<|aR (aC p k70) bO) p fun r158 _ H72=>J (aT p k70 p)<|U p<|ak<|Z ⟨r158,p,H72⟩) fun k70 H71=>Y (aU k70)<|J (au p k70 p)<|U p<|ak<|Z ⟨false,p,H71⟩) fun k64 H65=>Y (aU k64)<|Y (aU k64)<|Y (aU k64)<|J (au p k64 p)<|M p<|Y p<|Y p<|Y p<|J (au p p p)<|U p<|ak<|Z ⟨false,p,H65⟩) fun k59 H60=>Y (aU k59)<|J (au p k59 p)<|M p<|Y p<|Y p<|Y p<|Y p<|J (au p p p)<|M p<|Y p<|Y p<|Y p<|J (au p p p)<|U p<|ak<|Z ⟨false,p,H60⟩) fun k51 H52=>Y (aU k51)<|Y (aU k51)<|Y (aU k51)<|J (au p k51 p)<|M p<|Y p<|Y p<|Y p<|J (au p p p)<|M p<|Y p<|Y p<|J (au p p p)<|M p<|Y p<|Y p<|Y p<|Y p<|J (au p p p)<|M p<|Y p<|Y p<|Y p<|J (au p p p)<|U p<|ak<|Z ⟨false,p,H52⟩) fun k46 H47=>Y (aU k46)<|J (au p k46 p)<|M p<|Y p<|Y p<|Y p<|Y p<|J (au p p p)<|M p<|Y p<|Y p<|Y p<|J (au p p p)<|M p<|Y p<|Y p<|J (au p p p)<|M p<|Y p<|Y p<|Y p<|Y p<|J (au p p p)<|M p<|Y p<|Y p<|Y p<|J (au p p p)<|U p<|ak<|Z ⟨false,p,H47⟩
def jH (K:Ptr->Hp->Prop) (r11:Ptr) (v18:Sl) (Rec6:Int->Hp->Prop) (s5:Int):Hp->Prop:=br (decide (s5 < (v18.len:Int))) ( ix v18 s5 fun q22=>ld (q22.1,q22.2 + Int.toNat s5 * 5) ai.C fun x23=>cl prog de [(pv r11),(.int .i64 0),(.int .i64 0),(.agg (ai.C x23).toArray)] bd fun r27=>br ((!r27.2) || (r27.1.fXa != 0)) ( K none) ( Rec6 (i64.wrap (s5 + 1)))) ( K r11)
def nL (a0:aJ) (a1:Int) (K:Ptr->Hp->Prop):Hp->Prop:=cl prog xe [(.agg (aJ.C a0).toArray)] ko fun r11=>br r11.isNone ( K none) ( hpv prog (Instr.buildSlice t_Sapi_Call 3 #[(0,(.agg (ai.C (⟨1,0,0,0,0⟩:ai)).toArray)),(1,(.agg (ai.C (⟨6,0,0,3,0⟩:ai)).toArray)),(2,(.agg (ai.C (⟨21,0,0,a1,0⟩:ai)).toArray))]) R_Sapi_Call fun (v18:Sl)=>Lp (jH K r11 v18) 0)
theorem uO (a0:aJ) (a1:Int) {K:Ptr->Hp->Prop} {h:Hp} (H:nL a0 a1 K h):cl prog kg [(.agg (aJ.C a0).toArray),(.int .u64 a1)] ko K h:=z_i func15 p p fun _=>O<|aa<|cK (l:=aJ.C a0) p p p fun b2=>U p<|O<|bi (bD (k:=0) qZ p p p p) p<|aa<|D H en_23 fun r11 _ H1=>U p<|am<|O<|M p<|J (cm underlying26 p)<|ae<|aw p H1 (fun k2 H3=>O<|U p<|ak<|Z ⟨none,p,H3⟩) fun k2 H3=>ap<|am<|O<|J (aZ p<|kl 1 0)<|J (aZ p<|fe 6 0 0 3)<|M p<|J (aZ p<|fe 21 0 0 a1)<|aa<|aS H3 (bt (vs:=[(.agg (ai.C (⟨1,0,0,0,0⟩:ai)).toArray),(.agg (ai.C (⟨6,0,0,3,0⟩:ai)).toArray),(.agg (ai.C (⟨21,0,0,a1,0⟩:ai)).toArray)]) p) p fun v18 _ H4=>J (dv p underlying69 p)<|M p<|ae<|az<|bC (step:=jH K r11 v18) (fun s5=>[(5,(pv r11)),(18,(sv v18)),(19,(.int .i64 (v18.len:Int))),(20,(.int .i64 s5))]) (fun s5=>[]) H4 (.cons p<|.cons p<|.cons p<|.cons p<|.nil _) (.cons _ .slnil) fun Rec6 s5 _ H7=>O<|J (cu p p)<|ae<|am<|aw p H7 (fun k8 H9=>ap<|am<|az<|O<|ch H9 fun q22 e10 h11 H12=>J (bm slc_69 (aM p<|ba e10) p h11)<|aa<|gA H12 ff p (fun _=>p) p fun x23 H13=>aa<|aN (l:=ai.C (⟨0,0,0,0,0⟩:ai)) zero_34 p p fun b7=>aa<|aQ (k:=0) (vs:=ai.C x23) inf_34 p p p p p p p<|ae<|O<|M p<|bi (bD (k:=0) ff p p p p) p<|aa<|D H13 en_16 fun r27 _ H14=>M p<|J (al p p)<|J (al p p)<|aa<|aN (l:=ab.C (⟨0,0⟩:ab)) cY p p fun b8=>aa<|aQ (k:=0) (vs:=ab.C r27.1) bL p p p p p p p<|U p<|O<|M p<|J (ct p)<|M p<|W p p (aI _) (fun g15=>wv<|ah iZ p)<|W p p (aI _) (fun g16=>cv<|be (k:=0) mT (aC p g16) p p)<|W p p (aI _) (fun g17=>wv<|ph (aC p g17) p)<|J (dr p p)<|ae<|aw p H14 (fun k18 H19=>O<|U p<|ak<|Z ⟨none,p,H19⟩) fun k18 H19=>ap<|aq<|J (bo p p)<|M p<|ae<|cL (i64.wrap (s5 + 1)) H19 (.cons p<|.cons p<|.cons p<|.cons p<|.nil _)<|.cons _<|.cons _ .slnil) fun k8 H9=>bj<|O<|M p<|U p<|ak<|Z ⟨r11,p,H9⟩
def eI (a0:Int) (v38:Sl) (Rec9:Int->Hp->Prop) (s8:Int) (x52:Int) (s25:Bool):Hp->Prop:=br s25 ( ix v38 ((i64.wrap ((x52.tmod (i64.wrap (2 + ((i64.wrap ((a0.tmod 5) + 5)).tmod 5)))) + (i64.wrap (2 + ((i64.wrap ((a0.tmod 5) + 5)).tmod 5))))).tmod (i64.wrap (2 + ((i64.wrap ((a0.tmod 5) + 5)).tmod 5)))) fun q79=>ld (q79.1,q79.2 + Int.toNat ((i64.wrap ((x52.tmod (i64.wrap (2 + ((i64.wrap ((a0.tmod 5) + 5)).tmod 5)))) + (i64.wrap (2 + ((i64.wrap ((a0.tmod 5) + 5)).tmod 5))))).tmod (i64.wrap (2 + ((i64.wrap ((a0.tmod 5) + 5)).tmod 5)))) * 1) (cI .i64) fun x80=>st (q79.1,q79.2 + Int.toNat ((i64.wrap ((x52.tmod (i64.wrap (2 + ((i64.wrap ((a0.tmod 5) + 5)).tmod 5)))) + (i64.wrap (2 + ((i64.wrap ((a0.tmod 5) + 5)).tmod 5))))).tmod (i64.wrap (2 + ((i64.wrap ((a0.tmod 5) + 5)).tmod 5)))) * 1) [.int .i64 (i64.wrap (x80 + 1))]<|Rec9 (i64.wrap (s8 + 1))) ( Rec9 (i64.wrap (s8 + 1)))
def ji (K:Bool->Hp->Prop) (r34:Ptr) (s48:Int × Int) (v100:(Option Nat)) (r102:Sl) (Rec60:Int->Hp->Prop) (s59:Int):Hp->Prop:=br (decide (s59 < (r102.len:Int))) ( ix r102 s59 fun q106=>ld (q106.1,q106.2 + Int.toNat s59 * 16) aF.C fun x107=>br (x107.fKa.e0 == 23) ( br (!(x107.fVa.fXa != 0)) ( hpv prog (Instr.lookup kQ (.map v100) (.int .u64 x107.fVa.fHb) false) aB fun (v121:Bool)=>br (v121 || (decide (x107.fVa.fHb >= s48.1))) ( K false) ( hpu prog (Instr.mapUpdate kQ (.map v100) (.int .u64 x107.fVa.fHb) (.bool true))<|Rec60 (i64.wrap (s59 + 1)))) ( K false)) ( Rec60 (i64.wrap (s59 + 1)))) ( cl prog de [(pv r34),(.int .i64 0),(.int .i64 0),(.agg (ai.C (⟨20,0,0,0,0⟩:ai)).toArray)] bd fun r138=>K (r138.2 && (ab.eqb r138.1 (⟨0,s48.1⟩:ab))))
def jj (K:Bool->Hp->Prop) (r34:Ptr) (v38:Sl) (Rec49:(Int × Int)->Hp->Prop) (s48:Int × Int):Hp->Prop:=br (decide (s48.2 < (v38.len:Int))) ( ix v38 s48.2 fun q95=>ld (q95.1,q95.2 + Int.toNat s48.2 * 1) (cI .i64) fun x96=>Rec49 ((u64.wrap (s48.1 + (u64.wrap x96))),(i64.wrap (s48.2 + 1)))) ( hpv prog (Instr.makeMap kQ none) R_map_uint64_bool fun (v100:(Option Nat))=>cl prog fS [(pv r34)] eu fun r102=>Lp (ji K r34 s48 v100 r102) 0)
def jk (a0:Int) (a1:Int) (a2:Sl) (K:Bool->Hp->Prop) (r34:Ptr) (v38:Sl) (Rec9:Int->Hp->Prop) (s8:Int):Hp->Prop:=br ((decide (s8 < (a2.len:Int))) && (decide (s8 < 120))) ( ix a2 s8 fun q51=>ld (q51.1,q51.2 + Int.toNat s8 * 1) (cI .i64) fun x52=>gd ((i64.wrap (2 + ((i64.wrap ((a0.tmod 5) + 5)).tmod 5))) ≠ 0)<|cl prog eW [(pv r34),(.int .i64 ((i64.wrap ((x52.tmod (i64.wrap (2 + ((i64.wrap ((a0.tmod 5) + 5)).tmod 5)))) + (i64.wrap (2 + ((i64.wrap ((a0.tmod 5) + 5)).tmod 5))))).tmod (i64.wrap (2 + ((i64.wrap ((a0.tmod 5) + 5)).tmod 5)))))] aB fun r61=>br r61 ( cl prog mg [(pv r34),(.int .i64 ((i64.wrap ((x52.tmod (i64.wrap (2 + ((i64.wrap ((a0.tmod 5) + 5)).tmod 5)))) + (i64.wrap (2 + ((i64.wrap ((a0.tmod 5) + 5)).tmod 5))))).tmod (i64.wrap (2 + ((i64.wrap ((a0.tmod 5) + 5)).tmod 5)))))] aB fun r64=>Rec9 (i64.wrap (s8 + 1))) ( ix v38 ((i64.wrap ((x52.tmod (i64.wrap (2 + ((i64.wrap ((a0.tmod 5) + 5)).tmod 5)))) + (i64.wrap (2 + ((i64.wrap ((a0.tmod 5) + 5)).tmod 5))))).tmod (i64.wrap (2 + ((i64.wrap ((a0.tmod 5) + 5)).tmod 5)))) fun q67=>ld (q67.1,q67.2 + Int.toNat ((i64.wrap ((x52.tmod (i64.wrap (2 + ((i64.wrap ((a0.tmod 5) + 5)).tmod 5)))) + (i64.wrap (2 + ((i64.wrap ((a0.tmod 5) + 5)).tmod 5))))).tmod (i64.wrap (2 + ((i64.wrap ((a0.tmod 5) + 5)).tmod 5)))) * 1) (cI .i64) fun x68=>br (decide (x68 < (i64.wrap (1 + ((i64.wrap ((a1.tmod 4) + 4)).tmod 4))))) ( cl prog kW [(pv r34),(.int .i64 ((i64.wrap ((x52.tmod (i64.wrap (2 + ((i64.wrap ((a0.tmod 5) + 5)).tmod 5)))) + (i64.wrap (2 + ((i64.wrap ((a0.tmod 5) + 5)).tmod 5))))).tmod (i64.wrap (2 + ((i64.wrap ((a0.tmod 5) + 5)).tmod 5))))),(.int .i64 0),(.agg (ai.C (⟨23,0,0,1,0⟩:ai)).toArray)] aB fun r75=>eI a0 v38 Rec9 s8 x52 r75) ( eI a0 v38 Rec9 s8 x52 false))) ( cl prog fy [(pv r34),(.int .i64 (i64.wrap (2 + ((i64.wrap ((a0.tmod 5) + 5)).tmod 5)))),(.int .i64 1000)] aB fun r85=>br (!r85) ( K false) ( Lp (jj K r34 v38) (0,0)))
def mR (a0:Int) (a1:Int) (a2:Sl) (K:Bool->Hp->Prop):Hp->Prop:=cl prog kH [] aB fun r19=>br (!r19) ( K false) ( cl prog kg [(.agg (aJ.C (⟨(i64.wrap (2 + ((i64.wrap ((a0.tmod 5) + 5)).tmod 5))),1,1⟩:aJ)).toArray),(.int .u64 0)] ko fun r34=>br r34.isNone ( K false) ( hpv prog (Instr.makeSlice dD (.int .i64 (i64.wrap (2 + ((i64.wrap ((a0.tmod 5) + 5)).tmod 5)))) (.int .i64 (i64.wrap (2 + ((i64.wrap ((a0.tmod 5) + 5)).tmod 5))))) cx fun (v38:Sl)=>Lp (jk a0 a1 a2 K r34 v38) 0))
theorem tF (a0:Int) (a1:Int) (a2:Sl) {K:Bool->Hp->Prop} {h:Hp} (H:mR a0 a1 a2 K h):cl prog nO [(.int .i64 a0),(.int .i64 a1),(sv a2)] aB K h:=z_i func6 p p fun _=>O<|U p<|O<|aa<|D H en_14 fun r19 _ H1=>U p<|am<|O<|M p<|J (ct p)<|ae<|aw p H1 (fun k2 H3=>O<|U p<|ak<|Z ⟨false,p,H3⟩) fun k2 H3=>ap<|O<|M p<|J (v_rem p p (by decide))<|J (bo p p)<|J (v_rem p p (by decide))<|J (bo p p)<|M p<|J (v_rem p p (by decide))<|J (bo p p)<|J (v_rem p p (by decide))<|J (bo p p)<|J (av p)<|U p<|O<|M p<|J (aZ p<|tB (i64.wrap (2 + ((i64.wrap ((a0.tmod 5) + 5)).tmod 5))) 1 1)<|aa<|D H3 en_15 fun r34 _ H4=>U p<|am<|O<|M p<|J (cm underlying26 p)<|ae<|aw p H4 (fun k5 H6=>O<|U p<|ak<|Z ⟨false,p,H6⟩) fun k5 H6=>ap<|O<|M p<|aa<|aS H6 (iG p p) p fun v38 _ H7=>U p<|am<|O<|U p<|az<|bC (step:=jk a0 a1 a2 K r34 v38) (fun s8=>[(0,(.int .i64 (i64.wrap (2 + ((i64.wrap ((a0.tmod 5) + 5)).tmod 5))))),(1,(.int .i64 (i64.wrap (1 + ((i64.wrap ((a1.tmod 4) + 4)).tmod 4))))),(2,(sv a2)),(8,(pv r34)),(9,(sv v38)),(10,(.int .i64 s8))]) (fun s8=>[]) H7 (.cons p<|.cons p<|.cons p<|.cons p<|.cons p<|.cons p<|.nil _) .slnil fun Rec9 s8 _ H10=>am<|O<|M p<|M p<|J (dv p underlying39 p)<|J (cu p p)<|M p<|W p p (ay _) (fun g11=>wv<|aj p)<|W p p (ay _) (fun g12=>wv<|cu (aC p g12) p)<|J (bP p p)<|ae<|aw p H10 (fun k13 H14=>ap<|am<|az<|O<|M p<|M p<|ch H14 fun q51 e15 h16 H17=>J (bm fP (aM p<|ba e15) p h16)<|aa<|aV H17 bb p (fun _=>p) p fun x52 H18=>M p<|iz H18 fun z19 H20=>J (v_rem p p z19)<|M p<|J (bo p p)<|M p<|J (v_rem p p z19)<|U p<|O<|M p<|M p<|aa<|D H20 en_31 fun r61 _ H21=>ae<|aw p H21 (fun k22 H23=>aq<|M p<|M p<|aa<|D H23 en_28 fun r64 _ H24=>ae<|aq<|M p<|J (bo p p)<|U p<|cL (i64.wrap (s8 + 1)) H24 (.cons p<|.cons p<|.cons p<|.cons p<|.cons p<|.cons p<|.nil _) .slnil) fun k22 H23=>eq (eI a0 v38 Rec9 s8 x52) (fun s25=>[(0,(.int .i64 (i64.wrap (2 + ((i64.wrap ((a0.tmod 5) + 5)).tmod 5))))),(1,(.int .i64 (i64.wrap (1 + ((i64.wrap ((a1.tmod 4) + 4)).tmod 4))))),(2,(sv a2)),(8,(pv r34)),(9,(sv v38)),(10,(.int .i64 s8)),(11,(.int .i64 ((i64.wrap ((x52.tmod (i64.wrap (2 + ((i64.wrap ((a0.tmod 5) + 5)).tmod 5)))) + (i64.wrap (2 + ((i64.wrap ((a0.tmod 5) + 5)).tmod 5))))).tmod (i64.wrap (2 + ((i64.wrap ((a0.tmod 5) + 5)).tmod 5)))))),(76,(.bool s25))]) (fun s25=>[]) (aq<|M p<|M p<|ch H23 fun q67 e34 h35 H36=>J (bm fP (aM p<|ba e34) p h35)<|aa<|aV H36 bb p (fun _=>p) p fun x68 H37=>M p<|J (cu p p)<|M p<|W p p (ay _) (fun g38=>wv<|aj p)<|W p p (ay _) (fun g39=>wv<|aj p)<|W p p (ay _) (fun g40=>wv<|aZ p<|fe 23 0 0 1)<|bU H37 (fun k42 H43=>G (F k42)<|gc H43 en_27 (aR (aC p k42)<|aR (aC p k42)<|aR p<|aR (aC p k42) bO) p fun r75 _ H44=>J (aT p k42 p)<|ae<|cF r75 H44 (.cons p<|.cons p<|.cons p<|.cons p<|.cons p<|.cons p<|.cons p<|.cons p<|.nil _) .slnil) fun k42 H43=>Y (aU k42)<|J (au p k42 p)<|ae<|cF false H43 (.cons p<|.cons p<|.cons p<|.cons p<|.cons p<|.cons p<|.cons p<|.cons p<|.nil _) .slnil) fun s25 _ H26=>aw p H26 (fun k27 H28=>aq<|M p<|M p<|ch H28 fun q79 e29 h30 H31=>J (bm fP (aM p<|ba e29) p h30)<|aa<|aV H31 bb p (fun _=>p) p fun x80 H32=>J (bo p p)<|J (bm fP (aM p<|ba e29) p h30)<|aa<|dx pK p p p p p H32 fun _ H33=>ae<|aq<|M p<|J (bo p p)<|U p<|cL (i64.wrap (s8 + 1)) H33 (.cons p<|.cons p<|.cons p<|.cons p<|.cons p<|.cons p<|.nil _) .slnil) fun k27 H28=>ap<|aq<|M p<|J (bo p p)<|U p<|cL (i64.wrap (s8 + 1)) H28 (.cons p<|.cons p<|.cons p<|.cons p<|.cons p<|.cons p<|.nil _) .slnil) fun k13 H14=>bj<|am<|O<|M p<|M p<|aa<|D H14 en_29 fun r85 _ H45=>J (ct p)<|ae<|aw p H45 (fun k46 H47=>O<|U p<|ak<|Z ⟨false,p,H47⟩) fun k46 H47=>ap<|O<|U p<|am<|O<|M p<|J (dv p underlying39 p)<|M p<|ae<|az<|bC (step:=jj K r34 v38) (fun s48=>[(8,(pv r34)),(9,(sv v38)),(12,(.int .u64 s48.1)),(88,(.int .i64 (v38.len:Int))),(89,(.int .i64 s48.2))]) (fun s48=>[]) H47 (.cons p<|.cons p<|.cons p<|.cons p<|.cons p<|.nil _) .slnil fun Rec49 s48 _ H50=>O<|J (cu p p)<|ae<|am<|aw p H50 (fun k51 H52=>ap<|am<|az<|O<|M p<|U p<|aq<|M p<|M p<|M p<|ch H52 fun q95 e53 h54 H55=>J (bm fP (aM p<|ba e53) p h54)<|aa<|aV H55 bb p (fun _=>p) p fun x96 H56=>J (dR ⟨_,underlying3⟩ underlying22 p)<|J (bo p p)<|U p<|aq<|J (bo p p)<|M p<|ae<|cL ((u64.wrap (s48.1 + (u64.wrap x96))),(i64.wrap (s48.2 + 1))) H56 (.cons p<|.cons p<|.cons p<|.cons p<|.cons p<|.nil _) .slnil) fun k51 H52=>bj<|O<|aa<|aS H52 x_makeMap0 p fun v100 _ H57=>U p<|am<|O<|M p<|aa<|D H57 en_20 fun r102 _ H58=>J (dv p underlying42 p)<|M p<|ae<|az<|bC (step:=ji K r34 s48 v100 r102) (fun s59=>[(8,(pv r34)),(12,(.int .u64 s48.1)),(14,(.map v100)),(102,(sv r102)),(103,(.int .i64 (r102.len:Int))),(104,(.int .i64 s59))]) (fun s59=>[]) H58 (.cons p<|.cons p<|.cons p<|.cons p<|.cons p<|.cons p<|.nil _) .slnil fun Rec60 s59 _ H61=>O<|J (cu p p)<|ae<|am<|aw p H61 (fun k62 H63=>ap<|am<|az<|O<|ch H63 fun q106 e64 h65 H66=>J (bm re (aM p<|ba e64) p h65)<|aa<|gA H66 ag_56 p (fun _=>p) p fun x107 H67=>aa<|aN (l:=aF.C (⟨0,0,(⟨0,0,0,0,0⟩:ai),0,0,0,(⟨0,0⟩:ab),(⟨0,0,0,0⟩:ao)⟩:aF)) zero_56 p p fun b16=>aa<|aQ (k:=0) (vs:=aF.C x107) inf_56 p p p p p p p<|ae<|O<|J (ah lF p)<|J (bA dc p p (by decide))<|bi (be (k:=0) cn p p p) p<|J (bR p p)<|ae<|aw p H67 (fun k68 H69=>am<|O<|J (ah gK p)<|J (ah iZ p)<|bi (be (k:=0) mT p p p) p<|J (ph p p)<|M p<|W p p (aI _) (fun g70=>wv<|aj p)<|W p p (aI _) (fun g71=>wv<|ah gK p)<|W p p (aI _) (fun g72=>wv<|ah vR<|aC p g72)<|W p p (aI _) (fun g73=>cv<|be (k:=0) cn (aC p g73) p p)<|bU H69 (fun k75 H76=>G (F<|cg k75)<|aS H76 (x_lookup (aC p k75)<|aC p k75) p fun v121 _ H77=>J (au p (cg k75) p)<|M p<|W p p (aI _) (fun g78=>wv<|ah gK p)<|W p p (aI _) (fun g79=>wv<|ah vR<|aC p g79)<|W p p (aI _) (fun g80=>cv<|be (k:=0) cn (aC p g80) p p)<|W p p (aI _) (fun g81=>wv<|aj p)<|W p p (aI _) (fun g82=>wv<|jx (aC p g82)<|aC p g82)<|J (dr p p)<|ae<|aw p H77 (fun k83 H84=>O<|U p<|ak<|Z ⟨false,p,H84⟩) fun k83 H84=>ap<|aq<|M p<|J (ah gK p)<|J (ah vR p)<|bi (be (k:=0) cn p p p) p<|aa<|to_hpu H84 (qB p p p) fun _ H85=>ae<|aq<|J (bo p p)<|M p<|ae<|cL (i64.wrap (s59 + 1)) H85 (.cons p<|.cons p<|.cons p<|.cons p<|.cons p<|.cons p<|.nil _)<|.cons _ .slnil) fun k75 H76=>Y (bY<|bG k75)<|J (aT p (bG k75) p)<|M p<|Y p<|Y p<|Y p<|Y p<|Y p<|J (aT p p p)<|ae<|lH p p<|O<|U p<|ak<|Z ⟨false,p,H76⟩) fun k68 H69=>ap<|aq<|J (bo p p)<|M p<|ae<|cL (i64.wrap (s59 + 1)) H69 (.cons p<|.cons p<|.cons p<|.cons p<|.cons p<|.cons p<|.nil _)<|.cons _ .slnil) fun k62 H63=>bj<|O<|M p<|J (aZ p<|oY 20 0 0)<|aa<|D H63 en_16 fun r138 _ H86=>M p<|J (al p p)<|J (al p p)<|aa<|aN (l:=ab.C (⟨0,0⟩:ab)) cY p p fun b17=>aa<|aQ (k:=0) (vs:=ab.C r138.1) bL p p p p p p p<|U p<|O<|M p<|M p<|W p p (ay _) (fun g87=>cv<|bD (k:=0) cz p p p p)<|W p p (ay _) (fun g88=>wv<|aj p)<|W p p (ay _) (fun g89=>wv<|aZ (aR (aC p g89) bO)<|jm s48.1)<|W p p (ay _) (fun g90=>wv<|v_eqA eqg_30 (eqr_30 9998 _ _) (aC p g90)<|aC p g90)<|J (bP p p)<|U p<|ak<|Z ⟨(r138.2 && (ab.eqb r138.1 (⟨0,s48.1⟩:ab))),p,H86⟩
end
section
open Go Mb
namespace KK
def drain (c:Int):Nat->KK->KK
 | 0,k=>k
 | n + 1,k=>if 0 < mail k c then drain c n (post k c).2 else k
def turn1 (k:KK) (c:Int):KK × Bool:=if busy (drain c 5000 k) c = true then ((step (drain c 5000 k) c).2,true) else (drain c 5000 k,false)
def sweep:Nat->Int->KK->Bool->KK × Bool
 | 0,_,k,b=>(k,b)
 | n + 1,c,k,b=>sweep n (c + 1) (turn1 k c).1 ((turn1 k c).2 || b)
def anyBusy (k:KK):Nat->Int->Bool
 | 0,_=>false
 | n + 1,c=>busy k c || anyBusy k n (c + 1)
def settle (cores:Nat):Nat->KK->Bool × KK
 | 0,k=>(!anyBusy k cores 0,k)
 | n + 1,k=>if (sweep cores 0 k false).2 = false then (true,(sweep cores 0 k false).1) else settle cores n (sweep cores 0 k false).1
def lastA (core:Int) (es:List bk):Nat->dZ × Bool
 | 0=>(⟨0,0⟩,false)
 | n + 1=>match es[n]? with
  | some e=>if e.fQa = core then (e.fVa,decide (e.fYa > 0)) else lastA core es n
  | none=>(⟨0,0⟩,false)
def run (k:KK) (core env:Int) (c:cN):(dZ × Bool) × KK :=
 if (begin_ k core env c).1 = false then ((⟨0,0⟩,false),(begin_ k core env c).2)
 else if (settle 8 1000 (begin_ k core env c).2).1 = false then ((⟨0,0⟩,false),(settle 8 1000 (begin_ k core env c).2).2)
 else (lastA core (settle 8 1000 (begin_ k core env c).2).2.events (settle 8 1000 (begin_ k core env c).2).2.events.length,(settle 8 1000 (begin_ k core env c).2).2)
theorem access_now (k:KK) (c:Int) (x:KC):(access k c x).2.now = k.now:=by unfold access; split; rfl; split <;> rfl
theorem work_now (k:KK) (c:Int) (x:KC):(work k c x).now = k.now:=by
 unfold work
 split
 ·exact access_now k c x
 ·split
  ·rfl
  ·split
   ·rfl
   ·split <;> rfl
theorem step_now {k:KK} (h0:0 <= k.now) (h:k.now < 2 ^ 38) (c:Int):k.now <= (step k c).2.now/\(step k c).2.now <= k.now + 1:=by
 have hw:=wrapN h0 (by omega)
 unfold step
 split
 ·exact ⟨le_refl _,by show k.now <= k.now + 1; omega⟩
 ·split
  ·exact ⟨le_refl _,by show k.now <= k.now + 1; omega⟩
  ·show _ <= (work _ _ _).now/\(work _ _ _).now <= _
   rw [work_now]
   simp only [tick,hw]; omega
theorem post_now {k:KK} (h0:0 <= k.now) (h:k.now < 2 ^ 38) (c:Int):k.now <= (post k c).2.now/\(post k c).2.now <= k.now + 1:=by
 have hw:=wrapN h0 (by omega)
 unfold post
 split
 ·exact ⟨le_refl _,by show k.now <= k.now + 1; omega⟩
 ·split
  ·exact ⟨le_refl _,by show k.now <= k.now + 1; omega⟩
  ·show _ <= (tick k).now/\(tick k).now <= _
   simp only [tick,hw]; omega
theorem begin_now {k:KK} (h0:0 <= k.now) (h:k.now < 2 ^ 38) (core env:Int) (c:cN):k.now <= (begin_ k core env c).2.now/\(begin_ k core env c).2.now <= k.now + 1:=by
 have hw:=wrapN h0 (by omega)
 unfold begin_
 split
 ·exact ⟨le_refl _,by show k.now <= k.now + 1; omega⟩
 ·simp only [hw]; omega
end KK
section
variable {x:Ptr} {l:List As}
theorem kern_n0 {k:KK} {h:Hp} (s:aE (cE x k::l) h):0 <= k.now/\k.events.length <= k.now:=by
 obtain ⟨z,_,_,ok,_⟩:=uz s
 exact ⟨ok.n0,ok.evn⟩
theorem settle_l3 {Rec:Bool × Int->Hp->Prop} {k:KK} {b:Bool} {c:Int} {h:Hp} (h0:0 <= c) (hc:c < 100) (hn:k.now + 5001 < 2 ^ 37) (st:aE (cE x k::l) h)
  (kk:∀ h',(KK.turn1 k c).1.now <= k.now + 5001->aE (cE x (KK.turn1 k c).1::l) h'->Rec ((KK.turn1 k c).2 || b,c + 1) h'):Lp (gt x Rec (b,c)) 0 h:=by
 have hj:∀ d h',KK.drain c 5000 k = d->d.now <= k.now + 5000->aE (cE x d::l) h'->eX x Rec (b,c) () h':=by
  intro d h' e hd s1
  unfold eX
  refine bQ (i:=0) (lQ x d c) rfl s1 fun r h2 hr s2=>?_
  refine bQ (i:=0) (lQ x d c) rfl s2 fun r' h3 hr' s3=>?_
  subst hr; subst hr'
  have hw:i64.wrap (c + 1) = c + 1:=bN (by omega) (by omega)
  simp only [hw]
  refine aY (fun k2=>?_) (fun k2=>?_)
  ·refine bQ (i:=0) (sp_kern_Step x d c (by omega)) rfl s3 fun r h4 hr s4=>?_
   have e2:KK.turn1 k c = ((KK.step d c).2,true):=by unfold KK.turn1; rw [e,if_pos k2]
   have n1:=kern_n0 s3
   have n2:=KK.step_now n1.1 (by omega) c
   rw [e2] at kk
   rw [k2]
   exact kk h4 (by show (KK.step d c).2.now <= _; omega) s4
  ·have e2:KK.turn1 k c = (d,false):=by unfold KK.turn1; rw [e,if_neg (by rw [k2]; exact Bool.false_ne_true)]
   rw [e2] at kk
   rw [k2]
   exact kk h3 (by show d.now <= _; omega) s3
 refine Lp.intro (fun (m:Int) h=>∃ (n:Nat) (d:KK),m = 5000 - n/\n <= 5000/\KK.drain c n d = KK.drain c 5000 k/\d.now <= k.now + (5000 - n)/\aE (cE x d::l) h) (fun m _=>(5000 - m).toNat) ⟨5000,k,rfl,Nat.le_refl _,rfl,by omega,st⟩ ?_
 rintro m h1 ⟨n,d,rfl,hm,e,hd,s1⟩
 unfold gt
 refine aY (fun k1=>?_) (fun k1=>?_)
 ·have hlt:0 < n:=by have:=of_decide_eq_true k1; omega
  obtain ⟨n,rfl⟩:∃ j,n = j + 1:=⟨n - 1,by omega⟩
  refine bQ (i:=0) (sp_kern_Mail x d c) rfl s1 fun r h2 hr s2=>?_
  subst hr
  refine aY (fun k2=>?_) (fun k2=>?_)
  ·have k2':0 < KK.mail d c:=of_decide_eq_true k2
   refine bQ (i:=0) (sp_kern_Post x d c (by omega)) rfl s2 fun r h3 hr s3=>?_
   have n1:=kern_n0 s2
   have n2:=KK.post_now n1.1 (by omega) c
   have hw:i64.wrap ((5000:Int) - ((n + 1:Nat):Int) + 1) = 5000 - (n:Int):=by rw [bN (by omega) (by omega)]; omega
   rw [hw]
   refine ⟨⟨n,_,rfl,by omega,?_,by omega,s3⟩,by show (5000 - (5000 - (n:Int))).toNat < (5000 - (5000 - ((n + 1:Nat):Int))).toNat; omega⟩
   rw [← e]
   exact (if_pos k2').symm
  ·have k2':¬ 0 < KK.mail d c:=of_decide_eq_false k2
   exact hj d h2 (by rw [← e]; exact if_neg k2') (by omega) s2
 ·have hz:n = 0:=by have:=of_decide_eq_false k1; omega
  subst hz
  exact hj d h1 e.symm (by omega) s1
theorem settle_l2 {Rec2:Int->Hp->Prop} {K:Bool->Hp->Prop} {k:KK} {m:Int} {cores:Nat} {h:Hp} (hc:cores <= 8) (hn:k.now + cores * 5001 < 2 ^ 37) (st:aE (cE x k::l) h)
  (kt:∀ h',(KK.sweep cores 0 k false).2 = false->(KK.sweep cores 0 k false).1.now <= k.now + cores * 5001->aE (cE x (KK.sweep cores 0 k false).1::l) h'->K true h')
  (kf:∀ h',(KK.sweep cores 0 k false).2 = true->(KK.sweep cores 0 k false).1.now <= k.now + cores * 5001->aE (cE x (KK.sweep cores 0 k false).1::l) h'->Rec2 (i64.wrap (m + 1)) h') :
  Lp (gu x cores K Rec2 m) (false,0) h:=by
 refine Lp.intro (fun (s:Bool × Int) h=>∃ (n:Nat) (d:KK),s.2 = (cores:Int) - n/\n <= cores/\KK.sweep n s.2 d s.1 = KK.sweep cores 0 k false/\d.now <= k.now + (cores - n) * 5001/\aE (cE x d::l) h) (fun s _=>cores - s.2.toNat)
  ⟨cores,k,by simp,Nat.le_refl _,rfl,by simp,st⟩ ?_
 rintro ⟨b,c⟩ h1 ⟨n,d,e0,hm,e,hd,s1⟩
 simp only at e0 e
 subst e0
 unfold gu
 refine aY (fun k1=>?_) (fun k1=>?_)
 ·have hlt:0 < n:=by have:=of_decide_eq_true k1; simp only at this; omega
  obtain ⟨n,rfl⟩:∃ j,n = j + 1:=⟨n - 1,by omega⟩
  have hq:(((cores:Int) - ((n + 1:Nat):Int)) * 5001) + 5001 = ((cores:Int) - n) * 5001:=by omega
  have hq2:((cores:Int) - n) * 5001 <= cores * 5001:=by omega
  refine settle_l3 (by omega) (by omega) (by omega) s1 fun h' hnow s2=>?_
  have hw:(cores:Int) - ((n + 1:Nat):Int) + 1 = (cores:Int) - n:=by omega
  refine ⟨⟨n,_,hw,by omega,?_,by omega,s2⟩,?_⟩
  ·rw [← e]; rfl
  ·show cores - ((cores:Int) - ((n + 1:Nat):Int) + 1).toNat < cores - ((cores:Int) - ((n + 1:Nat):Int)).toNat
   omega
 ·have hz:n = 0:=by have:=of_decide_eq_false k1; simp only at this; omega
  subst hz
  have e':(d,b) = KK.sweep cores 0 k false:=e
  refine aY (fun k2=>?_) (fun k2=>?_)
  ·have hb:b = false:=by simpa using k2
   rw [← e'] at kt
   exact kt h1 hb (by show d.now <= _; simpa using hd) s1
  ·have hb:b = true:=by simpa using k2
   rw [← e'] at kf
   exact kf h1 hb (by show d.now <= _; simpa using hd) s1
theorem settle_l4 {K:Bool->Hp->Prop} {k:KK} {cores:Nat} {h:Hp} (hc:cores <= 8) (st:aE (cE x k::l) h)
  (kk:∀ h',aE (cE x k::l) h'->K (!KK.anyBusy k cores 0) h'):Lp (gr x cores K) 0 h:=by
 refine Lp.intro (fun (c:Int) h=>∃ n:Nat,c = (cores:Int) - n/\n <= cores/\KK.anyBusy k n c = KK.anyBusy k cores 0/\aE (cE x k::l) h) (fun s _=>cores - s.toNat) ⟨cores,by simp,Nat.le_refl _,rfl,st⟩ ?_
 rintro c h1 ⟨n,rfl,hm,e,s1⟩
 unfold gr
 refine aY (fun k1=>?_) (fun k1=>?_)
 ·have hlt:0 < n:=by have:=of_decide_eq_true k1; omega
  obtain ⟨n,rfl⟩:∃ j,n = j + 1:=⟨n - 1,by omega⟩
  refine bQ (i:=0) (lQ x k _) rfl s1 fun r h2 hr s2=>?_
  subst hr
  have e':(KK.busy k ((cores:Int) - ((n + 1:Nat):Int)) || KK.anyBusy k n ((cores:Int) - ((n + 1:Nat):Int) + 1)) = KK.anyBusy k cores 0:=e
  refine aY (fun k2=>?_) (fun k2=>?_)
  ·rw [k2,Bool.true_or] at e'
   rw [← e'] at kk
   exact kk h2 s2
  ·rw [k2,Bool.false_or] at e'
   have hw:i64.wrap ((cores:Int) - ((n + 1:Nat):Int) + 1) = (cores:Int) - ((n + 1:Nat):Int) + 1:=bN (by omega) (by omega)
   rw [hw]
   refine ⟨⟨n,by omega,by omega,e',s2⟩,by omega⟩
 ·have hz:n = 0:=by have:=of_decide_eq_false k1; omega
  subst hz
  have e':false = KK.anyBusy k cores 0:=e
  rw [← e'] at kk
  exact kk h1 s1
end
theorem sp_Settle (x:Ptr) (k:KK) (cores most:Nat) (hc:cores <= 8) (hm:most <= 1000) (hn:k.now < 2 ^ 36):Sp prog fy [pv x,.int .i64 cores,.int .i64 most] aB [cE x k]
  (fun r=>pa_ (r = (KK.settle cores most k).1/\(KK.settle cores most k).2.now <= k.now + most * 40008) [cE x (KK.settle cores most k).2]):=by
 intro h st
 refine uP _ _ _ ?_
 unfold nM
 refine Lp.intro (fun (m:Int) h=>∃ (n:Nat) (d:KK),m = (most:Int) - n/\n <= most/\KK.settle cores n d = KK.settle cores most k/\d.now <= k.now + (most - n) * 40008/\aE [cE x d] h) (fun m _=>most - m.toNat)
  ⟨most,k,by simp,Nat.le_refl _,rfl,by simp,st⟩ ?_
 rintro m h1 ⟨n,d,rfl,hnm,e,hd,s1⟩
 unfold jI
 have hq:((most:Int) - n) * 40008 <= 1000 * 40008:=by omega
 have hq2:(cores:Int) * 5001 <= 40008:=by omega
 refine aY (fun k1=>?_) (fun k1=>?_)
 ·have hlt:0 < n:=by have:=of_decide_eq_true k1; omega
  obtain ⟨n,rfl⟩:∃ j,n = j + 1:=⟨n - 1,by omega⟩
  have e':(if (KK.sweep cores 0 d false).2 = false then (true,(KK.sweep cores 0 d false).1) else KK.settle cores n (KK.sweep cores 0 d false).1) = KK.settle cores most k:=e
  refine settle_l2 hc (by omega) s1 (fun h' hb hnow s2=>?_) (fun h' hb hnow s2=>?_)
  ·rw [if_pos hb] at e'
   rw [← e']
   exact aX ⟨rfl,by show (KK.sweep cores 0 d false).1.now <= _; omega⟩ s2
  ·rw [if_neg (by rw [hb]; decide)] at e'
   have hw:i64.wrap ((most:Int) - ((n + 1:Nat):Int) + 1) = (most:Int) - n:=by rw [bN (by omega) (by omega)]; omega
   rw [hw]
   exact ⟨⟨n,_,rfl,by omega,e',by omega,s2⟩,by omega⟩
 ·have hz:n = 0:=by have:=of_decide_eq_false k1; omega
  subst hz
  have e':(!KK.anyBusy d cores 0,d) = KK.settle cores most k:=e
  refine settle_l4 hc s1 fun h' s2=>?_
  rw [← e']
  exact aX ⟨rfl,by show d.now <= _; simpa using hd⟩ s2
theorem run_yes {k:KK} {core env:Int} {c:cN} {d e:KK} (h1:(KK.begin_ k core env c) = (true,d)) (h2:KK.settle 8 1000 d = (true,e)):KK.run k core env c = (KK.lastA core e.events e.events.length,e):=by
 unfold KK.run
 rw [h1]
 dsimp only
 rw [if_neg (by decide),h2]
 dsimp only
 rw [if_neg (by decide)]
theorem run_l1 {s:Sl} {es:List bk} {l:List As} {core:Int} {K:dZ × Bool->Hp->Prop} {h:Hp} (hb:es.length < 2 ^ 38) (st:aE (vE s es::l) h)
  (kk:∀ h',aE (vE s es::l) h'->K (KK.lastA core es es.length) h'):Lp (gf core K s) (i64.wrap ((s.len:Int) - 1),⟨0,0⟩) h:=by
 have hl:=(ci (j:=0) st rfl).1
 have hw0:i64.wrap ((s.len:Int) - 1) = (es.length:Int) - 1:=by rw [hl,bN (by omega) (by omega)]
 rw [hw0]
 refine Lp.intro (fun (z:Int × dZ) h=>∃ n:Nat,z = ((n:Int) - 1,⟨0,0⟩)/\n <= es.length/\KK.lastA core es n = KK.lastA core es es.length/\aE (vE s es::l) h) (fun z _=>(z.1 + 1).toNat) ⟨_,rfl,Nat.le_refl _,rfl,st⟩ ?_
 rintro _ h1 ⟨n,rfl,hn,e,s1⟩
 unfold gf
 refine aY (fun k1=>?_) (fun k1=>?_)
 ·have hlt:0 < n:=by have:=of_decide_eq_true k1; simp only at this; omega
  obtain ⟨n,rfl⟩:∃ j,n = j + 1:=⟨n - 1,by omega⟩
  have hn':n < es.length:=by omega
  have hi:((n + 1:Nat):Int) - 1 = (n:Int):=by omega
  simp only [hi]
  have e':(match es[n]? with
   | some e=>if e.fQa = core then (e.fVa,decide (e.fYa > 0)) else KK.lastA core es n
   | none=>(⟨0,0⟩,false)) = KK.lastA core es es.length:=e
  rw [aD hn'] at e'
  simp only at e'
  refine dn s1 (j:=0) rfl (by omega) (by show (n:Int) < _; omega) fun q hq=>?_
  have lk:∀ {σ:Type} {enc:σ->List Value} {K:σ->Hp->Prop} (y:σ) (o:Nat),(∀ i v,(enc y)[i]? = some v->(es[n].C)[o + i]? = some v)->K y h1->ld (q.1,q.2 + Int.toNat (n:Int) * 16 + o) enc K h1:=by
   intro σ enc K y o he k
   exact dT (j:=0) (i:=n) (k:=o) y mE s1 rfl hq (by simp) (aD hn') he k
  refine lk es[n].fQa 0 (fun i v hv=>?_) ?_
  ·rcases i with _ | i <;> first | exact hv | simp [cI] at hv
  refine aY (fun k2=>?_) (fun k2=>?_)
  ·have k2':es[n].fQa = core:=by simpa using k2
   rw [if_pos k2'] at e'
   have hA:∀ i v,(ab.C es[n].fVa)[i]? = some v->(es[n].C)[10 + i]? = some v:=by
    intro i v hv
    rcases i with _ | _ | i <;> first | exact hv | simp [ab.C] at hv
   have hE:∀ i v,((cI .i64) es[n].fYa)[i]? = some v->(es[n].C)[9 + i]? = some v:=by
    intro i v hv
    rcases i with _ | i <;> first | exact hv | simp [cI] at hv
   refine ⟨lk _ 10 hA (lk _ 9 hE ?_),lk _ 9 hE (lk _ 10 hA ?_)⟩
   ·rw [e']; exact kk h1 s1
   ·rw [e']; exact kk h1 s1
  ·have k2':¬ es[n].fQa = core:=by simpa using k2
   rw [if_neg k2'] at e'
   rw [bN (by omega) (by omega)]
   exact ⟨⟨n,rfl,by omega,e',s1⟩,by show ((n:Int) - 1 + 1).toNat < ((n:Int) + 1).toNat; omega⟩
 ·have hz:n = 0:=by have:=of_decide_eq_false k1; simp only at this; omega
  subst hz
  have e':((⟨0,0⟩,false):dZ × Bool) = KK.lastA core es es.length:=e
  rw [← e'] at kk
  exact kk h1 s1
theorem run_no {k:KK} {core env:Int} {c:cN} {d e:KK} (h1:(KK.begin_ k core env c) = (true,d)) (h2:KK.settle 8 1000 d = (false,e)):KK.run k core env c = ((⟨0,0⟩,false),e):=by
 unfold KK.run
 rw [h1]
 dsimp only
 rw [if_neg (by decide),h2]
 dsimp only
 rw [if_pos rfl]
theorem run_tail (x:Ptr) (k:KK) (core env:Int) (c:cN) (d:KK) (h1:KK.begin_ k core env c = (true,d)) (hn:d.now <= k.now + 1) (hk:k.now < 2 ^ 35) {h:Hp} (s1:aE [cE x d] h) :
  (cl prog fy [(pv x),(.int .i64 8),(.int .i64 1000)] aB fun r20 =>
   br (!r20) ((fun r h'=>pa_ (r = (KK.run k core env c).1/\(KK.run k core env c).2.now <= k.now + 40008001) [cE x (KK.run k core env c).2] h') (⟨0,0⟩,false)) (
   cl prog fS [(pv x)] eu fun r24 =>
   Lp (gf core (fun r h'=>pa_ (r = (KK.run k core env c).1/\(KK.run k core env c).2.now <= k.now + 40008001) [cE x (KK.run k core env c).2] h') r24) ((i64.wrap ((r24.len:Int) - 1)),(⟨0,0⟩:ab)))) h:=by
 have c8:=sp_Settle x d 8 1000 (Nat.le_refl _) (Nat.le_refl _) (by omega)
 generalize hz:KK.settle 8 1000 d = z at c8
 obtain ⟨b,e⟩:=z
 refine bQ (i:=0) c8 rfl s1 fun r h2 hr s2=>?_
 obtain ⟨hr,hs⟩:=hr
 have hs':e.now <= d.now + 40008000:=hs
 have n2:=kern_n0 s2
 have hr':r = b:=hr
 rw [hr']
 cases b
 ·rw [run_no h1 hz]
  exact dN rfl (aX ⟨rfl,by show e.now <= _; omega⟩ s2)
 ·refine dp rfl ?_
  refine xB (i:=0) (sF x _ (by show e.now < _; omega)) rfl s2 fun s h3 s3=>?_
  refine run_l1 (by show e.events.length < _; have:(e.events.length:Int) <= e.now:=n2.2; omega) s3 fun h4 s4=>?_
  rw [run_yes h1 hz]
  exact aX ⟨rfl,by show e.now <= _; omega⟩ (cd (l:=[_]) s4)
theorem sp_Run (x:Ptr) (k:KK) (core env:Int) (c:cN) (hn:k.now < 2 ^ 35):Sp prog de [pv x,.int .i64 core,.int .i64 env,.agg c.C.toArray] bd [cE x k]
  (fun r=>pa_ (r = (KK.run k core env c).1/\(KK.run k core env c).2.now <= k.now + 40008001) [cE x (KK.run k core env c).2]):=by
 intro h st
 have n0:=kern_n0 st
 have nb:=KK.begin_now n0.1 (by omega) core env c
 refine sim_messuagelaw16_Run _ _ _ _ ?_
 unfold qO
 refine bQ (i:=0) (sp_kern_Begin x k core env c (by omega)) rfl st fun r h1 hr s1=>?_
 subst hr
 refine aY (fun k1=>?_) (fun k1=>?_)
 ·have k1':(KK.begin_ k core env c).1 = false:=by simpa using k1
  have e:KK.run k core env c = ((⟨0,0⟩,false),(KK.begin_ k core env c).2):=if_pos k1'
  rw [e]
  exact aX ⟨rfl,by show (KK.begin_ k core env c).2.now <= _; omega⟩ s1
 ·have k1':(KK.begin_ k core env c).1 = true:=by simpa using k1
  exact run_tail x k core env c (KK.begin_ k core env c).2 (by rw [← k1']) (by omega) hn s1
end
section
open Go Mb
structure IE (k:KK):Prop where
 inv:fh k
 ev:jo k
theorem ie_new {s:eK} (h:PK.sized s = true):IE (KK.new s):=⟨inv_new h,evinv_new s⟩
theorem IE.begin {k:KK} (A:IE k) (hn:k.now < 2 ^ 40) (core env:Int) {c:cN} (cw:Cw c):IE (KK.begin_ k core env c).2:=⟨A.inv.begin hn core env cw,A.ev.begin A.inv.ok hn core env c⟩
theorem IE.post {k:KK} (A:IE k) (hn:k.now < 2 ^ 40) (c:Int):IE (KK.post k c).2:=by
 have hI:=A.inv.post hn c
 have hw:=wrapN A.inv.ok.n0 hn
 have he:(KK.post k c).2.events = k.events/\(KK.post k c).2.p = k.p/\(KK.post k c).2.calls = k.calls/\k.now <= (KK.post k c).2.now:=by
  unfold KK.post
  split
  ·exact ⟨rfl,rfl,rfl,le_refl _⟩
  ·split
   ·exact ⟨rfl,rfl,rfl,le_refl _⟩
   ·exact ⟨rfl,rfl,rfl,by show k.now <= i64.wrap (k.now + 1); omega⟩
 exact ⟨hI,A.ev.same he.1 (by rw [he.2.1]) he.2.2.2 (fun c x h=>⟨x,by rw [← he.2.2.1]; exact h,rfl,rfl,rfl⟩) (fun c x h=>⟨x,by rw [he.2.2.1]; exact h,rfl⟩)⟩
theorem do_wait {k:PK} {e:Int} {c:cN} (h:(PK.do_ k e c).1.2 = false):(PK.do_ k e c).2 = k:=by
 unfold PK.do_ at h ⊢
 split
 ·rfl
 ·rename_i h1
  rw [if_neg h1] at h
  split
  ·rfl
  ·rename_i h2
   rw [if_neg h2] at h
   unfold PK.does PK.errs at h ⊢
   repeat' split
   all_goals first | rfl | (exfalso; simp_all; done)
theorem access_keep (k:KK) (c:Int) (x:KC):(KK.access k c x).2.events = k.events/\(KK.access k c x).2.now = k.now/\(KK.access k c x).2.p.s = k.p.s/\(KK.access k c x).2.calls = k.calls/\(KK.access k c x).2.fFa = k.fFa:=by
 unfold KK.access
 split
 ·exact ⟨rfl,rfl,rfl,rfl,rfl⟩
 ·split
  ·exact ⟨rfl,rfl,rfl,rfl,rfl⟩
  ·exact ⟨rfl,rfl,touch_s _ _ _,rfl,rfl⟩
theorem work_ev {k:KK} (E:jo k) (hlate:∀ (i:Nat) e,k.events[i]? = some e->e.fRa < k.now/\e.fHa < k.now) {c:Nat} {x:KC} (hc:c < k.calls.length) (hcx:k.calls[c]? = some (some x)):jo (KK.work k c x):=by
 unfold KK.work
 by_cases hu:bF (ax x.fc).1 = true
 ·rw [if_pos hu]
  obtain ⟨h1,h2,h3,h4,_⟩:=access_keep k c x
  have E2:jo (KK.access k c x).2:=E.same h1 h3 (by rw [h2]; exact le_refl _) (fun d y h=>⟨y,by rw [← h4]; exact h,rfl,rfl,rfl⟩) (fun d y h=>⟨y,by rw [h4]; exact h,rfl⟩)
  exact E2.ends (by rw [h4]; exact hcx) (by rw [h1,h2]; exact hlate) _ _
 ·rw [if_neg hu]
  split
  ·refine E.same rfl rfl (le_refl _) (fun d y h=>?_) (fun d y h=>?_)
   ·simp only [KK.send,KK.clean,KK.tell,toNat_natCast,set_set] at h
    rw [List.getElem?_set] at h
    split at h
    ·rename_i e
     refine ⟨x,e ▸ hcx,?_⟩
     simp only [hc,if_true,Option.some.injEq] at h
     rw [← h]; exact ⟨rfl,rfl,rfl⟩
    ·exact ⟨y,h,rfl,rfl,rfl⟩
   ·simp only [KK.send,KK.clean,KK.tell,toNat_natCast,set_set]
    rw [List.getElem?_set]
    by_cases e:c = d
    ·subst e
     rw [hcx] at h
     cases h
     rw [if_pos rfl,if_pos hc]
     exact ⟨_,rfl,rfl⟩
    ·rw [if_neg e]; exact ⟨y,h,rfl⟩
  ·split
   ·exact E
   ·split
    ·have E2:jo { k with p:=(PK.do_ k.p x.fGa x.fc).2 }:=E.same rfl (do_s _ _ _) (le_refl _) (fun d y h=>⟨y,h,rfl,rfl,rfl⟩) (fun d y h=>⟨y,h,rfl⟩)
     exact E2.ends hcx hlate _ _
    ·rename_i hdone
     rw [do_wait (by simpa using hdone)]
     exact E
theorem tick_now {k:KK} (ok:KK.Ok k) (hn:k.now < 2 ^ 40):(KK.tick k).now = k.now + 1:=wrapN ok.n0 hn
theorem tick_ev {k:KK} (ok:KK.Ok k) (E:jo k) (hn:k.now < 2 ^ 40):jo (KK.tick k):=E.same rfl rfl (by rw [tick_now ok hn]; omega) (fun c x h=>⟨x,h,rfl,rfl,rfl⟩) (fun c x h=>⟨x,h,rfl⟩)
theorem tick_late {k:KK} (ok:KK.Ok k) (E:jo k) (hn:k.now < 2 ^ 40):∀ (i:Nat) e,(KK.tick k).events[i]? = some e->e.fRa < (KK.tick k).now/\e.fHa < (KK.tick k).now:=fun i e h=>by
 have o:=E.one i e h
 rw [tick_now ok hn]
 have h1:=o.b1
 have h0:=o.b0
 rcases o.st with h2 | h2
 ·exact ⟨by omega,by rw [h2.1]; omega⟩
 ·exact ⟨by omega,by omega⟩
theorem IE.step {k:KK} (A:IE k) (hn:k.now < 2 ^ 40) (c:Int):IE (KK.step k c).2:=by
 refine ⟨A.inv.step hn c,?_⟩
 unfold KK.step
 split
 ·exact A.ev
 ·rename_i hb
  obtain ⟨hi,x,hx⟩:=busy_is (by simpa using hb)
  rw [hx]
  obtain ⟨n,rfl,hlt⟩:=kq hi
  exact work_ev (tick_ev A.inv.ok A.ev hn) (tick_late A.inv.ok A.ev hn) (by show n < k.calls.length; omega) (qe hx)
end
end Go.Proofs.YtemoifebbhoinaaGreatDoor
