/- Part of the proof of: The law RaceAlloc returns true for every input, and leaves its arguments as they were. -/
import Derived.Test.YtemoifebbhoinaaGreatDoorRaceAlloc12
set_option linter.all false
set_option maxRecDepth 20000
namespace Go.Proofs.YtemoifebbhoinaaGreatDoor
open Tryz
section
open Go Mb
structure KZ where
 b:Nat
 pp:Ptr
 ts:Sl
 tp:List Ptr
 pm:Ptr
 pe:Ptr
 cs:Sl
 cp:List Ptr
 es:Sl
abbrev kcl (z:KZ) (k:KK):List Value:=[pv z.pp,.int .i64 k.p.s.fIa,sv z.ts,pv z.pm,pv z.pe,sv z.cs,sv z.es,.int .i64 k.now]
abbrev mA (z:KZ) (k:KK):List As:=[blk z.b ci (kcl z k),bp z.pp k.p,vQ sL z.ts z.tp,all fF z.tp k.fNa,jk z.pm k.fJa,eY z.pe k.fFa,vQ fu z.cs z.cp,all iC z.cp k.calls,vE z.es k.events]
structure KZ.Ok (z:KZ) (k:KK):Prop where
 t:z.tp.length = k.fNa.length
 c:z.cp.length = k.calls.length
def cL (x:Ptr) (k:KK):As:=fun h=>∃ z:KZ,(x = some (z.b,0)/\KZ.Ok z k/\KK.Ok k)/\aF (mA z k) h
theorem sj {x:Ptr} {k:KK} {l:List As} {h:Hp} (s0:aF (cL x k::l) h):∃ z:KZ,x = some (z.b,0)/\KZ.Ok z k/\KK.Ok k/\aF (mA z k++l) h:=by
 obtain ⟨z,⟨hx,h1,ok⟩,st⟩:=op_ s0
 exact ⟨z,hx,h1,ok,st⟩
theorem oV {z:KZ} {k:KK} {l:List As} {h:Hp} (h1:KZ.Ok z k) (ok:KK.Ok k) (st:aF (mA z k++l) h):aF (cL (some (z.b,0)) k::l) h :=
 cl_ (m:=fun z:KZ=>mA z k) z ⟨rfl,h1,ok⟩ st
theorem kk_len {k:KK} (ok:KK.Ok k):k.fNa.length = k.calls.length/\k.fJa.length = k.calls.length/\k.fFa.2.length = k.calls.length/\1 <= k.calls.length/\k.calls.length <= 8:=by
 have h1:=ok.tl; have h2:=ok.bl; have h3:=ok.el; have h4:=ok.cl; have h5:=fA.1 ok.p.sz
 omega
theorem is_nat {k:KK} {c:Int} (h:KK.is k c = true):∃ n:Nat,c = n/\n < k.calls.length:=by
 have:=of_decide_eq_true (show decide (0 <= c/\c < (k.calls.length:Int)) = true from h)
 exact ⟨c.toNat,by omega,by omega⟩
theorem call_nat {k:KK} {n:Nat} (h:n < k.calls.length):KK.call k n = k.calls[n]:=by simp [KK.call,h]
theorem buf_nat {k:KK} {n:Nat} (h:n < k.fNa.length):KK.buf k n = k.fNa[n]:=by simp [KK.buf,h]
theorem wB (x:Ptr) (k:KK) (c:Int):Sp prog jz [pv x,.int .i64 c] aC [cL x k] (fun r=>pa_ (r = KK.is k c) [cL x k]):=by
 intro h s0
 obtain ⟨z,rfl,zo,ok,st⟩:=sj s0
 have hcs:=(cj (j:=6) st rfl).1
 refine sim_kern_Kern_is _ _ ?_
 unfold sh_kern_Kern_is
 refine aY (fun d=>?_) (fun d=>?_)
 ·have d':0 <= c:=by simpa using d
  refine cD (bk z.cs st (i:=0) rfl rfl rfl ?_)
  exact aX (by rw [hcs,zo.c]; simp [KK.is,d']) s0
 ·have d':¬ 0 <= c:=by simpa using d
  exact aX (by simp [KK.is]; intro h; exact absurd h d') s0
theorem ow (x:Ptr) (k:KK) (c:Int):Sp prog fU [pv x,.int .i64 c] aC [cL x k] (fun r=>pa_ (r = KK.busy k c) [cL x k]):=by
 intro h s0
 refine sim_kern_Kern_Busy _ _ ?_
 unfold uj
 refine bP (wB x k c) (i:=0) rfl s0 fun r h1 hr s1=>?_
 subst hr
 refine aY (fun d=>?_) (fun d=>?_)
 ·obtain ⟨n,rfl,hn⟩:=is_nat d
  obtain ⟨z,rfl,zo,ok,st⟩:=sj s1
  have hcs:=(cj (j:=6) st rfl).1
  have hn':n < z.cp.length:=by rw [zo.c]; exact hn
  refine cD (bk z.cs st (i:=0) rfl rfl rfl ?_)
  refine dy st (j:=6) rfl (by omega) (by omega) fun q hq=>?_
  refine eB (j:=6) (i:=n) (k:=0) z.cp[n] gU st rfl hq (by simp) (aH hn') (by simp) ?_
  refine aX ?_ s1
  unfold KK.busy
  rw [d,call_nat hn]
  cases hc:k.calls[n] with
  | none =>
   have:=call_none (j:=7) st rfl (aH hn') (by rw [aH hn,hc])
   rw [this]; rfl
  | some y =>
   obtain ⟨b,hp,_⟩:=wi (j:=7) st rfl (aH hn') (by rw [aH hn,hc])
   rw [hp]; rfl
 ·exact aX (by unfold KK.busy; rw [d]; rfl) s1
theorem sp_kern_Begin (x:Ptr) (k:KK) (core env:Int) (c:da) (hn:k.now < 2 ^ 38):Sp prog kX [pv x,.int .i64 core,.int .i64 env,.agg c.C.toArray] aC [cL x k] (fun r=>pa_ (r = (KK.begin_ k core env c).1) [cL x (KK.begin_ k core env c).2]):=by
 intro h s0
 refine sim_kern_Kern_Begin _ _ _ _ ?_
 unfold sT
 have no:(KK.is k core = false\/KK.busy k core = true\/env < 0\/env >= k.p.s.fIa)->KK.begin_ k core env c = (false,k):=fun hh=>if_pos hh
 refine bP (wB x k core) (i:=0) rfl s0 fun r h1 hr s1=>?_
 subst hr
 refine aY (fun d=>?_) (fun d=>?_)
 ·have d':KK.is k core = true:=by simpa using d
  refine bP (ow x k core) (i:=0) rfl s1 fun r h2 hr s2=>?_
  subst hr
  refine aY (fun d2=>?_) (fun d2=>?_)
  ·have d2':KK.busy k core = false/\¬ env < 0:=by simpa using d2
   obtain ⟨z,rfl,zo,ok,st⟩:=sj s2
   refine cD (bk k.p.s.fIa st (i:=0) rfl rfl rfl ?_)
   refine aY (fun d3=>?_) (fun d3=>?_)
   ·rw [no (.inr (.inr (.inr (by simpa using d3))))]
    exact aX rfl s2
   ·have d3':¬ env >= k.p.s.fIa:=by simpa using d3
    have ok2:=kok_begin ok (by omega) core env c
    have e1:KK.begin_ k core env c = (true,{ k with now:=IntKind.i64.wrap (k.now + 1),events:=k.events++[KK.ev0 core env c (IntKind.i64.wrap (k.now + 1))],calls:=k.calls.set core.toNat (some ⟨k.events.length,env,c,false,0⟩) }):=by
     unfold KK.begin_; rw [if_neg]; simp [d',d2'.1]; omega
    rw [e1] at ok2 ⊢
    obtain ⟨n,rfl,hcn⟩:=is_nat d'
    have hn':n < z.cp.length:=by rw [zo.c]; exact hcn
    have hcs:=(cj (j:=6) st rfl).1
    have hel:=ok.evn
    refine bk k.now st (i:=0) rfl rfl rfl ?_
    refine uL (i:=0) st rfl (Nat.le_of_ble_eq_true rfl) fun h3 s3=>?_
    refine bk (IntKind.i64.wrap (k.now + 1)) s3 (i:=0) rfl rfl rfl ?_
    refine bk z.es s3 (i:=0) rfl rfl rfl ?_
    refine kC (τ:=bm) (i:=8) (enc:=av.C) (val:=fun x=>.agg x.C.toArray) (x:=KK.ev0 n env c (IntKind.i64.wrap (k.now + 1))) qv mI ev_one (fun _=>rfl) (by omega) rfl rfl s3 rfl (by omega) (by omega) fun v h4 s4=>?_
    refine uL (i:=0) s4 rfl (Nat.le_of_ble_eq_true rfl) fun h5 s5=>?_
    refine bk v s5 (i:=0) rfl rfl rfl ?_
    have hvl:=(cj (j:=8) s5 rfl).1
    refine bk z.cs s5 (i:=0) rfl rfl rfl ?_
    have hw:IntKind.i64.wrap ((v.len:Int) - 1) = k.events.length:=by rw [hvl]; rw [bM] <;> simp <;> omega
    rw [hw]
    refine pw s5 fun b68 h6 s6=>?_
    refine dy s6 (j:=7) rfl (by omega) (by omega) fun q hq=>?_
    refine st_v (j:=7) (i:=n) (k:=0) (some (b68,0):Ptr) gU s6 rfl hq (by simp) (aH hn') (by simp) rfl fun h7 s7=>?_
    have s8:=bd [8] s7 rfl
    have s10:=all_but (aH hn') (aH hcn) s8
    have s12:=call_mk (y:=⟨k.events.length,env,c,false,0⟩) (bd [1,0] s10 rfl)
    have s14:=all_in2 (A:=iC) hcn zo.c s12
    refine aX rfl (oV (z:={ z with es:=v,cp:=z.cp.set n (some (b68,0)) }) ⟨zo.t,by simpa using zo.c⟩ ok2 (bd [1,1,1,1,1,1,1,0,0] s14 rfl))
  ·rw [no]
   ·exact aX rfl s2
   ·simp at d2
    cases hb:KK.busy k core with
    | true=>exact .inr (.inl rfl)
    | false=>exact .inr (.inr (.inl (d2 hb)))
 ·rw [no (.inl (by simpa using d))]
  exact aX rfl s1
theorem cleans_drop (k:KK) (ls:List jn) (n:Nat) (h:n < ls.length) (b:Buf):KK.cleans k (ls.drop n) b = if KK.stale k ls[n] = true then KK.cleans k (ls.drop (n + 1)) (Tlb.flush b ls[n].fCa ls[n].fOa).2 else KK.cleans k (ls.drop (n + 1)) b:=by
 rw [List.drop_eq_getElem_cons h,KK.cleans]
theorem sp_kern_clean (z:KZ) (k:KK) (c:Nat) (hc:c < k.calls.length) (zo:KZ.Ok z k) (ok:KK.Ok k) :
  Sp prog kW [pv (some (z.b,0)),.int .i64 c] R_ (mA z k) (fun _=>aF (mA z (KK.clean k c))):=by
 intro h s0
 obtain ⟨l1,l2,l3,l4,l5⟩:=kk_len ok
 have hct:c < k.fNa.length:=by omega
 have hcp:c < z.tp.length:=by rw [zo.t]; exact hct
 have hts:=(cj (j:=2) s0 rfl).1
 refine sim_kern_Kern_clean _ _ ?_
 unfold sS
 refine cD (bk z.ts s0 (i:=0) rfl rfl rfl ?_)
 refine dy s0 (j:=2) rfl (by omega) (by omega) fun q hq=>?_
 refine eB (j:=2) (i:=c) (k:=0) z.tp[c] gU s0 rfl hq (by simp) (aH hcp) (by simp) ?_
 have s1:=js (aH hcp) (aH hct) (bd [3] s0 rfl)
 refine wh (sp_tlb_Lines z.tp[c] k.fNa[c]) (i:=0) rfl s1 fun r h2 s2=>?_
 have s3:=wl (aH hcp) (aH hct) zo.t (bd [1,1] s2 rfl)
 have s4:aF (vL r (Tlb.lines k.fNa[c])::mA z k) h2:=bd [1,1,1,1,0] s3 rfl
 have hll:(Tlb.lines k.fNa[c]).length = 8:=by
  obtain ⟨_,_,h8,_⟩:=oh s1
  unfold Tlb.lines; simpa using h8
 have hrl:=(cj (j:=0) s4 rfl).1
 have hbuf:KK.buf k c = k.fNa[c]:=buf_nat hct
 have same:k.fNa.set c k.fNa[c] = k.fNa:=iN (aH hct)
 refine Lp.intro (fun (i:Int) h=>∃ (n:Nat) (b:Buf),i = n/\n <= 8/\KK.cleans k ((Tlb.lines k.fNa[c]).drop n) b = KK.cleans k (Tlb.lines k.fNa[c]) k.fNa[c]/\aF (vL r (Tlb.lines k.fNa[c])::mA z { k with fNa:=k.fNa.set c b }) h) (fun (i:Int) _=>8 - i.toNat) ⟨0,k.fNa[c],rfl,Nat.zero_le _,rfl,by rw [same]; exact s4⟩ ?_
 rintro i h ⟨n,b,rfl,hn,he,s5⟩
 unfold nC
 refine aY (fun d=>?_) (fun d=>?_)
 ·have hlt:n < (Tlb.lines k.fNa[c]).length:=by rw [hrl] at d; simpa using d
  have hw:IntKind.i64.wrap ((n:Int) + 1) = ((n + 1:Nat):Int):=by rw [bM (by omega) (by omega)]; rfl
  rw [cleans_drop k _ n hlt] at he
  refine dy s5 (j:=0) rfl (by omega) (by omega) fun q2 hq2=>?_
  refine eB (j:=0) (i:=n) (k:=0) (Tlb.lines k.fNa[c])[n] line_len s5 rfl hq2 (by simp) (aH hlt) (by simp) ?_
  have hcb:c < (k.fNa.set c b).length:=by simpa using hct
  have hgb:(k.fNa.set c b)[c] = b:=by simp
  have j1:∀ (o:Bool × Pte) (h:Hp),((decide ((Tlb.lines k.fNa[c])[n].fCa >= 0)) && (((!o.1) || (o.2.fEa != (Tlb.lines k.fNa[c])[n].fEa)) || (!(aQ (Tlb.lines k.fNa[c])[n].fBa o.2.fBa)))) = KK.stale k (Tlb.lines k.fNa[c])[n]->aF (vL r (Tlb.lines k.fNa[c])::mA z { k with fNa:=k.fNa.set c b }) h ->
    ip c (z.b,0) (fun s' h'=>(∃ (n:Nat) (b:Buf),s' = n/\n <= 8/\KK.cleans k ((Tlb.lines k.fNa[c]).drop n) b = KK.cleans k (Tlb.lines k.fNa[c]) k.fNa[c]/\aF (vL r (Tlb.lines k.fNa[c])::mA z { k with fNa:=k.fNa.set c b }) h')/\8 - s'.toNat < 8 - (n:Int).toNat) n (Tlb.lines k.fNa[c])[n] o h:=by
   intro o h hs s6
   unfold ip
   rw [hs,hw]
   refine aY (fun d2=>?_) (fun d2=>?_)
   ·rw [if_pos d2] at he
    refine bk z.ts s6 (i:=1) rfl rfl rfl ?_
    refine dy s6 (j:=3) rfl (by omega) (by omega) fun q3 hq3=>?_
    refine eB (j:=3) (i:=c) (k:=0) z.tp[c] gU s6 rfl hq3 (by simp) (aH hcp) (by simp) ?_
    have s7:=js (aH hcp) (aH hcb) (bd [4] s6 rfl)
    rw [hgb] at s7
    refine bP (sp_tlb_Flush z.tp[c] b _ _) (i:=0) rfl s7 fun r h8 hr s8=>?_
    have s9:=xG (aH hcp) hcb (by simpa using zo.t) s8
    rw [List.set_set] at s9
    exact ⟨⟨n + 1,_,rfl,by omega,he,bd [1,1,1,1] s9 rfl⟩,by simp; omega⟩
   ·rw [if_neg (by rw [d2]; exact Bool.false_ne_true)] at he
    exact ⟨⟨n + 1,b,rfl,by omega,he,s6⟩,by simp; omega⟩
  refine aY (fun d2=>?_) (fun d2=>?_)
  ·have d2':0 <= (Tlb.lines k.fNa[c])[n].fCa:=by simpa using d2
   refine cQ [1,1,5,5] (sp_kern_seen z.b z.pp (kcl z k) k.p z.cs z.cp k.calls (Tlb.lines k.fNa[c])[n].fCa (Tlb.lines k.fNa[c])[n].fOa rfl rfl zo.c l5) s5 rfl fun r h6 s6=>?_
   obtain ⟨rfl,s7⟩:=bt.1 s6
   refine j1 _ _ ?_ (bd [4,0,0,2,2,2,2,0,0] s7 rfl)
   unfold KK.stale KK.seen
   rfl
  ·have d2':¬ 0 <= (Tlb.lines k.fNa[c])[n].fCa:=by simpa using d2
   refine j1 _ _ ?_ s5
   unfold KK.stale
   rw [d2,Bool.false_and,Bool.false_and]
 ·have:n = 8:=by rw [hrl] at d; simp at d; omega
  subst this
  rw [← hll,List.drop_length] at he
  have e1:KK.clean k c = { k with fNa:=k.fNa.set c b }:=by
   unfold KK.clean
   rw [hbuf,← he,Int.toNat_natCast]; rfl
  rw [e1]
  exact ce (l:=[vL r (Tlb.lines k.fNa[c])]) s5
theorem sp_kern_ends (z:KZ) (k:KK) (c:Nat) (x:KC) (a:eH) (l:jn) (hc:c < k.calls.length) (hx:k.calls[c]? = some (some x)) (zo:KZ.Ok z k) (ok:KK.Ok k) :
  Sp prog me [pv (some (z.b,0)),.int .i64 c,.agg a.C.toArray,.agg l.C.toArray] R_ (mA z k) (fun _=>aF [cL (some (z.b,0)) (KK.ends k c x a l)]):=by
 intro h s0
 have hcp:c < z.cp.length:=by rw [zo.c]; exact hc
 have hcs:=(cj (j:=6) s0 rfl).1
 have hes:=(cj (j:=8) s0 rfl).1
 obtain ⟨xb,hp,_⟩:=wi (j:=7) s0 rfl (aH hcp) hx
 have hcpx:z.cp[c]? = some (some (xb,0)):=by rw [aH hcp,hp]
 have hcok:=ok.cs x (List.mem_of_getElem? hx)
 obtain ⟨i,hi⟩:=Int.eq_ofNat_of_zero_le hcok.1
 have hil:i < k.events.length:=by omega
 refine sim_kern_Kern_ends _ _ _ _ ?_
 unfold uf
 refine cD (bk z.es s0 (i:=0) rfl rfl rfl ?_)
 refine bk z.cs s0 (i:=0) rfl rfl rfl ?_
 refine dy s0 (j:=6) rfl (by omega) (by omega) fun q hq=>?_
 refine eB (j:=6) (i:=c) (k:=0) z.cp[c] gU s0 rfl hq (by simp) (aH hcp) (by simp) ?_
 rw [hp]
 refine cD (ld_c1 (j:=7) x.fat s0 rfl hcpx hx rfl rfl ?_)
 rw [hi]
 refine dy s0 (j:=8) rfl (by omega) (by omega) fun q2 hq2=>?_
 refine bk k.now s0 (i:=0) rfl rfl rfl ?_
 refine bk k.now s0 (i:=0) rfl rfl rfl ?_
 refine st_v (j:=8) (i:=i) (k:=8) { k.events[i] with fHa:=k.now } mI s0 rfl hq2 rfl (aH hil) (by simp) rfl fun h1 s1=>?_
 have e1:(k.events.set i { k.events[i] with fHa:=k.now })[i]? = some { k.events[i] with fHa:=k.now }:=by simp [hil]
 refine st_v (j:=8) (i:=i) (k:=9) { k.events[i] with fHa:=k.now,fXa:=k.now } mI s1 rfl hq2 rfl e1 (by simp) rfl fun h2 s2=>?_
 simp only [List.set_set] at s2
 have e2:(k.events.set i { k.events[i] with fHa:=k.now,fXa:=k.now })[i]? = some { k.events[i] with fHa:=k.now,fXa:=k.now }:=by simp [hil]
 refine st_v (j:=8) (i:=i) (k:=10) { k.events[i] with fHa:=k.now,fXa:=k.now,fYa:=a } mI s2 rfl hq2 rfl e2 (by simp [ab.C]) rfl fun h3 s3=>?_
 simp only [List.set_set] at s3
 have e3:(k.events.set i { k.events[i] with fHa:=k.now,fXa:=k.now,fYa:=a })[i]? = some { k.events[i] with fHa:=k.now,fXa:=k.now,fYa:=a }:=by simp [hil]
 refine st_v (j:=8) (i:=i) (k:=12) (KK.evend k.events[i] k.now a l) mI s3 rfl hq2 rfl e3 (by simp [am.C]) rfl fun h4 s4=>?_
 simp only [List.set_set] at s4
 refine bk z.cs s4 (i:=0) rfl rfl rfl ?_
 refine dy s4 (j:=6) rfl (by omega) (by omega) fun q5 hq5=>?_
 refine st_v (j:=6) (i:=c) (k:=0) (none:Ptr) gU s4 rfl hq5 (by simp) (aH hcp) (by simp) rfl fun h5 s5=>?_
 have s7:=all_but hcpx hx (bd [7] s5 rfl)
 have s8:=star_cons (A:=iC none none) (fun _=>rfl) s7
 have s9:=all_in2 (A:=iC) hc zo.c s8
 have hge:k.events.getD i (KK.ev0 0 0 ⟨0,0,0,0,0⟩ 0) = k.events[i]:=by simp [hil]
 have e4:KK.ends k c x a l = { k with events:=k.events.set i (KK.evend k.events[i] k.now a l),calls:=k.calls.set c none }:=by
  unfold KK.ends; rw [hi,Int.toNat_natCast,Int.toNat_natCast,hge]
 have ok2:=kok_ends ok c x a l
 rw [e4] at ok2 ⊢
 refine oV (z:={ z with cp:=z.cp.set c none }) ⟨zo.t,by simpa using zo.c⟩ ok2 (bd [1,1,1,1,1,1,1,0,0] s9 rfl)
end
section
open Go Mb
theorem five {x:KC}:∀ (i:Nat) (v:Value),(ai.C x.fc)[i]? = some v->x.C[2 + i]? = some v:=by
 intro j v hv
 have:j < 5:=(List.getElem?_eq_some_iff.1 hv).1
 match j,this with
 | 0,_=>exact hv
 | 1,_=>exact hv
 | 2,_=>exact hv
 | 3,_=>exact hv
 | 4,_=>exact hv
theorem sp_kern_access (z:KZ) (k:KK) (c xb:Nat) (x:KC) (hc:c < k.calls.length) (hx:k.calls[c]? = some (some x)) (hp:z.cp[c]? = some (some (xb,0))) (zo:KZ.Ok z k) (ok:KK.Ok k) :
  Sp prog nv [pv (some (z.b,0)),.int .i64 c,pv (some (xb,0))] eK (mA z k) (fun r=>pa_ (r = (KK.access k c x).1) (mA z (KK.access k c x).2)):=by
 intro h s0
 obtain ⟨l1,l2,l3,l4,l5⟩:=kk_len ok
 have hct:c < k.fNa.length:=by omega
 have hcp:c < z.tp.length:=by rw [zo.t]; exact hct
 have hbuf:KK.buf k c = k.fNa[c]:=buf_nat hct
 refine sim_kern_Kern_access _ _ _ ?_
 unfold rI
 refine cD (cD ?_)
 refine ld_c (j:=7) x.fc s0 rfl hp hx five ?_
 refine bk k.p.s.fIa s0 (i:=0) rfl rfl rfl ?_
 refine tL (ji x.fc _) s0 fun r h1 hr s1=>?_
 subst hr
 refine aY (fun d=>?_) (fun d=>?_)
 ·have e1:KK.access k c x = ((⟨Word.check x.fc k.p.s.fIa,0⟩,iB),k):=if_pos (by simpa using d)
  rw [e1]; exact aX rfl s1
 ·have d':¬ Word.check x.fc k.p.s.fIa ≠ 0:=by simpa using d
  refine ld_c1 (j:=7) x.fc.e1 s1 rfl hp hx rfl rfl ?_
  refine mu oq s1 fun r37 h2 s2=>?_
  refine ld_c1 (j:=8) x.fGa s2 rfl hp hx rfl rfl ?_
  refine cQ [1,1,5,5] (sp_kern_seen z.b z.pp (kcl z k) k.p z.cs z.cp k.calls x.fGa (IntKind.i64.wrap x.fc.e1) rfl rfl zo.c l5) s2 rfl fun r h3 s3=>?_
  obtain ⟨hr,s4⟩:=bt.1 s3
  have hr':r = KK.seen k x.fGa (IntKind.i64.wrap x.fc.e1):=hr
  subst hr'
  have s5:aF (cX r37 (List.replicate 8 dc)::mA z k) h3:=bd [4,0,0,2,2,2,2,0,0] s4 rfl
  have j1:∀ h,aF (cX r37 (KK.fGb k x.fGa (IntKind.i64.wrap x.fc.e1))::mA z k) h->gM c (fun r=>pa_ (r = (KK.access k c x).1) (mA z (KK.access k c x).2)) (xb,0) (z.b,0) x.fc.e1 r37 () h:=by
   intro h s6
   have hts:=(cj (j:=3) s6 rfl).1
   unfold gM
   refine ld_c1 (j:=8) x.fc.e0 s6 rfl hp hx rfl rfl ?_
   refine bk z.ts s6 (i:=1) rfl rfl rfl ?_
   refine dy s6 (j:=3) rfl (by omega) (by omega) fun q hq=>?_
   refine eB (j:=3) (i:=c) (k:=0) z.tp[c] gU s6 rfl hq (by simp) (aH hcp) (by simp) ?_
   refine ld_c1 (j:=8) x.fGa s6 rfl hp hx rfl rfl ?_
   have s7:=js (aH hcp) (aH hct) (bd [4] s6 rfl)
   refine cQ [0,1] (sp_user_Walk z.tp[c] r37 k.fNa[c] (KK.fGb k x.fGa (IntKind.i64.wrap x.fc.e1)) x.fGa (IntKind.i64.wrap x.fc.e1) (IntKind.i64.wrap x.fc.e0)) s7 rfl fun r h8 s8=>?_
   obtain ⟨hr,s9⟩:=bt.1 s8
   have hr':r = (KK.fCb k c x).1:=by rw [hr]; unfold KK.fCb; rw [hbuf]
   have hw:(User.walk k.fNa[c] (KK.fGb k x.fGa (IntKind.i64.wrap x.fc.e1)) x.fGa (IntKind.i64.wrap x.fc.e1) (IntKind.i64.wrap x.fc.e0)).2 = (KK.fCb k c x).2:=by unfold KK.fCb; rw [hbuf]
   rw [hw] at s9
   subst hr'
   have s10:=xG (aH hcp) hct zo.t (bd [0,1] s9 rfl)
   refine aY (fun d2=>?_) (fun d2=>?_)
   ·have e1:KK.access k c x = ((⟨7,0⟩,iB),{ k with fNa:=k.fNa.set c (KK.fCb k c x).2 }):=by
     unfold KK.access; rw [if_neg d',if_pos (by simpa using d2),Int.toNat_natCast]
    rw [e1]
    exact aX rfl (ce (l:=[cX r37 _]) (bd [1,1,1,1,0] s10 rfl))
   ·have e1:KK.access k c x = (((PK.touch k.p (KK.fCb k c x).1.1.fEa x.fc).1.1,(KK.fCb k c x).1.1),{ k with fNa:=k.fNa.set c (KK.fCb k c x).2,p:=(PK.touch k.p (KK.fCb k c x).1.1.fEa x.fc).2 }):=by
     unfold KK.access; rw [if_neg d',if_neg (by simpa using d2),Int.toNat_natCast]
    rw [e1]
    refine bk z.pp s10 (i:=2) rfl rfl rfl ?_
    refine ld_c (j:=8) x.fc s10 rfl hp hx five ?_
    refine bP (ou z.pp k.p _ x.fc) (i:=3) rfl s10 fun r h11 hr s11=>?_
    subst hr
    have hs:=touch_s k.p (KK.fCb k c x).1.1.fEa x.fc
    refine aX rfl ?_
    have s12:=ce (l:=[cX r37 _]) (bd [1,1,1,1,0] s11 rfl)
    have ek:kcl z { k with fNa:=k.fNa.set c (KK.fCb k c x).2,p:=(PK.touch k.p (KK.fCb k c x).1.1.fEa x.fc).2 } = kcl z k:=by
     show [pv z.pp,Value.int .i64 (PK.touch k.p (KK.fCb k c x).1.1.fEa x.fc).2.s.fIa,_,_,_,_,_,_] = _
     rw [hs]
    show aF (blk z.b ci (kcl z _)::_) _
    rw [ek]
    exact s12
  refine aY (fun d2=>?_) (fun d2=>?_)
  ·refine bP (ko r37 _ (IntKind.i64.wrap x.fc.e1) (KK.seen k x.fGa (IntKind.i64.wrap x.fc.e1)).1) (i:=0) rfl s5 fun r h6 hr s6=>j1 _ ?_
   have e1:KK.fGb k x.fGa (IntKind.i64.wrap x.fc.e1) = (Table.insert (List.replicate 8 dc) (IntKind.i64.wrap x.fc.e1) (KK.seen k x.fGa (IntKind.i64.wrap x.fc.e1)).1).2:=if_pos d2
   rw [e1]; exact s6
  ·have e1:KK.fGb k x.fGa (IntKind.i64.wrap x.fc.e1) = List.replicate 8 dc:=if_neg (by rw [d2]; exact Bool.false_ne_true)
   exact j1 _ (by rw [e1]; exact s5)
theorem access_calls (k:KK) (c:Int) (x:KC):(KK.access k c x).2.calls = k.calls:=by
 unfold KK.access
 repeat' split
 all_goals rfl
theorem access_tlen (k:KK) (c:Int) (x:KC):(KK.access k c x).2.fNa.length = k.fNa.length:=by
 unfold KK.access
 repeat' split
 all_goals simp
theorem kz_tlbs {z:KZ} {k k':KK} (zo:KZ.Ok z k) (h1:k'.fNa.length = k.fNa.length) (h2:k'.calls.length = k.calls.length):KZ.Ok z k':=⟨by rw [h1]; exact zo.t,by rw [h2]; exact zo.c⟩
theorem sp_kern_Step (x:Ptr) (k:KK) (c:Int) (hn:k.now < 2 ^ 37):Sp prog mf [pv x,.int .i64 c] aC [cL x k] (fun r=>pa_ (r = (KK.step k c).1) [cL x (KK.step k c).2]):=by
 intro h s0
 refine sim_kern_Kern_Step _ _ ?_
 unfold ug
 refine bP (ow x k c) (i:=0) rfl s0 fun r h1 hr s1=>?_
 subst hr
 refine aY (fun d=>?_) (fun d=>?_)
 ·have e1:KK.step k c = (false,k):=if_pos (by simpa using d)
  rw [e1]; exact aX rfl s1
 ·have d':KK.busy k c = true:=by simpa using d
  obtain ⟨hi,y,hy⟩:=busy_is d'
  have e1:KK.step k c = (true,KK.work (KK.tick k) c y):=by unfold KK.step; rw [if_neg (by simp [d']),hy]
  rw [e1]
  obtain ⟨z,rfl,zo,ok,st⟩:=sj s1
  have okt:=kok_tick ok (by omega)
  obtain ⟨n,rfl,hnc⟩:=is_nat hi
  obtain ⟨l1,l2,l3,l4,l5⟩:=kk_len ok
  have hnp:n < z.cp.length:=by rw [zo.c]; exact hnc
  have hcs:=(cj (j:=6) st rfl).1
  have hxn:k.calls[n]? = some (some y):=by rw [aH hnc,← call_nat hnc,hy]
  have hep:=ok.epn
  have hwn:=wrapN ok.n0 (show k.now < 2 ^ 40 by omega)
  refine cD (bk k.now st (i:=0) rfl rfl rfl ?_)
  refine uL (i:=0) st rfl (Nat.le_of_ble_eq_true rfl) fun h2 s2=>?_
  have s3:aF (mA z (KK.tick k)) h2:=s2
  have zot:KZ.Ok z (KK.tick k):=⟨zo.t,zo.c⟩
  have hxt:(KK.tick k).calls[n]? = some (some y):=hxn
  have hyt:KK.call (KK.tick k) n = some y:=hy
  have hit:KK.is (KK.tick k) n = true:=hi
  have hept:((KK.tick k).fFa.1.length:Int) + 1 <= (KK.tick k).now:=by show _ <= IntKind.i64.wrap (k.now + 1); rw [hwn]; simp only [KK.tick]; omega
  have hnt:(KK.tick k).now <= 2 ^ 37:=by show IntKind.i64.wrap (k.now + 1) <= _; rw [hwn]; omega
  have okw:=kok_work okt hept hyt hit
  have hnct:n < (KK.tick k).calls.length:=hnc
  generalize KK.tick k = kt at *
  obtain ⟨xb,hp,_⟩:=wi (j:=7) s3 rfl (aH hnp) hxt
  have hpx:z.cp[n]? = some (some (xb,0)):=by rw [aH hnp,hp]
  refine bk z.cs s3 (i:=0) rfl rfl rfl ?_
  refine dy s3 (j:=6) rfl (by omega) (by omega) fun q hq=>?_
  refine eB (j:=6) (i:=n) (k:=0) z.cp[n] gU s3 rfl hq (by simp) (aH hnp) (by simp) ?_
  rw [hp]
  refine cD (ld_c (j:=7) y.fc s3 rfl hpx hxt five ?_)
  refine aY (fun d2=>?_) (fun d2=>?_)
  ·have ew:KK.work kt n y = KK.ends (KK.access kt n y).2 n y (KK.access kt n y).1.1 (KK.access kt n y).1.2:=if_pos d2
   rw [ew]
   have oka:=kok_access okt n y
   have hca:(KK.access kt n y).2.calls = kt.calls:=access_calls _ _ _
   have hta:(KK.access kt n y).2.fNa.length = kt.fNa.length:=access_tlen _ _ _
   refine cQ [0,0,0,0,0,0,0,0,0] (sp_kern_access z kt n xb y hnct hxt hpx zot okt) s3 rfl fun r h4 s4=>?_
   obtain ⟨hr,s5⟩:=bt.1 s4
   subst hr
   refine cQ [0,0,0,0,0,0,0,0,0] (sp_kern_ends z (KK.access kt n y).2 n y (KK.access kt n y).1.1 (KK.access kt n y).1.2 (by rw [hca]; exact hnct) (by rw [hca]; exact hxt) (kz_tlbs zot hta (by rw [hca])) oka) s5 rfl fun r h6 s6=>?_
   exact aX rfl (dB s6)
  ·have d2':¬ bA (az y.fc).1 = true:=by rw [d2]; exact Bool.false_ne_true
   have j2:∀ b:Bool,(y.fPa = false/\KK.takes kt.p y = true) = False->b = (y.fPa && !(fMa.done kt.fFa y.fBb))->∀ h,aF (mA z kt) h->iZ n (fun r=>pa_ (r = true) [cL (some (z.b,0)) (KK.work kt n y)]) (z.b,0) (xb,0) b h:=by
    intro b hno hb h s4
    have ew:KK.work kt n y = (if y.fPa = true/\fMa.done kt.fFa y.fBb = false then kt else if (PK.do_ kt.p y.fGa y.fc).1.2 = true then KK.ends { kt with p:=(PK.do_ kt.p y.fGa y.fc).2 } n y (PK.do_ kt.p y.fGa y.fc).1.1 iB else { kt with p:=(PK.do_ kt.p y.fGa y.fc).2 }):=by
     unfold KK.work
     rw [if_neg d2',if_neg (by rw [hno]; exact not_false)]
    rw [ew] at okw ⊢
    unfold iZ
    refine aY (fun d4=>?_) (fun d4=>?_)
    ·have d4':y.fPa = true/\fMa.done kt.fFa y.fBb = false:=by rw [hb] at d4; simpa using d4
     rw [if_pos d4']
     exact aX rfl (oV zot okt s4)
    ·have d4':¬ (y.fPa = true/\fMa.done kt.fFa y.fBb = false):=by rw [hb] at d4; simpa using d4
     rw [if_neg d4'] at okw ⊢
     refine bk z.pp s4 (i:=0) rfl rfl rfl ?_
     refine ld_c1 (j:=7) y.fGa s4 rfl hpx hxt rfl rfl ?_
     refine ld_c (j:=7) y.fc s4 rfl hpx hxt five ?_
     refine bP (jL z.pp kt.p y.fGa y.fc) (i:=1) rfl s4 fun r h5 hr s5=>?_
     subst hr
     have hs:=do_s kt.p y.fGa y.fc
     have s6:aF (mA z { kt with p:=(PK.do_ kt.p y.fGa y.fc).2 }) h5:=by
      show aF (blk z.b ci [pv z.pp,Value.int .i64 (PK.do_ kt.p y.fGa y.fc).2.s.fIa,_,_,_,_,_,_]::_) _
      rw [hs]; exact s5
     have okp:=kok_p okt (ok_do okt.p y.fGa y.fc) hs
     refine aY (fun d5=>?_) (fun d5=>?_)
     ·rw [if_pos d5]
      refine cQ [0,0,0,0,0,0,0,0,0] (sp_kern_ends z { kt with p:=(PK.do_ kt.p y.fGa y.fc).2 } n y (PK.do_ kt.p y.fGa y.fc).1.1 iB hnct hxt ⟨zot.t,zot.c⟩ okp) s6 rfl fun r h7 s7=>?_
      exact aX rfl (dB s7)
     ·rw [if_neg (by rw [d5]; exact Bool.false_ne_true)]
      exact aX rfl (oV (k:={ kt with p:=_ }) ⟨zot.t,zot.c⟩ okp s6)
   refine ld_c1 (j:=7) y.fPa s3 rfl hpx hxt rfl rfl ?_
   refine aY (fun d3=>?_) (fun d3=>?_)
   ·have d3':y.fPa = false:=by simpa using d3
    obtain ⟨xb',hp',s4⟩:=call_out hpx hxt (bd [7] s3 rfl)
    cases hp'
    refine cQ [2,0,1] (sp_kern_takes z.b xb z.pp (kcl z kt) kt.p y rfl rfl) s4 rfl fun r h5 s5=>?_
    obtain ⟨hr,s6⟩:=bt.1 s5
    subst hr
    unfold ja
    refine aY (fun d4=>?_) (fun d4=>?_)
    ·have ew:KK.work kt n y = KK.send (KK.clean (KK.tell kt n y) n) n y:=by unfold KK.work; rw [if_neg d2',if_pos ⟨d3',d4⟩]
     rw [ew] at okw ⊢
     refine uL (i:=1) s6 rfl (Nat.le_of_ble_eq_true rfl) fun h7 s7=>?_
     have s8:=call_in (y:={ y with fPa:=true }) hpx hnct zot.c (bd [1,2] s7 rfl)
     have s9:aF (mA z (KK.tell kt n y)) h7:=bd [1,1,1,1,1,1,1,0,0] s8 rfl
     have okl:KK.Ok (KK.tell kt n y):=kok_call okt n hyt (y:={ y with fPa:=true }) rfl rfl
     have hll:n < (KK.tell kt n y).calls.length:=by simpa [KK.tell] using hnct
     have zol:KZ.Ok z (KK.tell kt n y):=⟨zot.t,by simpa [KK.tell] using zot.c⟩
     refine cQ [0,0,0,0,0,0,0,0,0] (sp_kern_clean z (KK.tell kt n y) n hll zol okl) s9 rfl fun r h10 s10=>?_
     have s11:=dB s10
     have hcc:(KK.clean (KK.tell kt n y) n).calls[n]? = some (some { y with fPa:=true }):=by simp [KK.clean,KK.tell,hnct]
     have okc:=kok_clean okl n
     have zoc:KZ.Ok z (KK.clean (KK.tell kt n y) n):=⟨by simpa [KK.clean] using zol.t,zol.c⟩
     have hepc:((KK.clean (KK.tell kt n y) n).fFa.1.length:Int) + 1 <= kt.now:=hept
     have hbx:=okc.bx
     have htl:(KK.clean (KK.tell kt n y) n).calls = kt.calls.set n (some { y with fPa:=true }):=rfl
     have hnow:(KK.clean (KK.tell kt n y) n).now = kt.now:=rfl
     generalize KK.clean (KK.tell kt n y) n = kc at *
     have hncc:n < kc.calls.length:=by rw [htl]; simpa using hnct
     refine bk z.pe s11 (i:=0) rfl rfl rfl ?_
     refine bP (sp_epoch_Begin z.pe kc.fFa n (by omega)) (i:=5) rfl s11 fun r h12 hr s12=>?_
     subst hr
     obtain ⟨xb',hp',s13⟩:=call_out hpx hcc (bd [7] s12 rfl)
     cases hp'
     refine uL (i:=0) s13 rfl (Nat.le_of_ble_eq_true rfl) fun h14 s14=>?_
     have s15:=call_in (y:={ y with fPa:=true,fBb:=(fMa.begin_ kc.fFa n).1.1 }) hpx hncc zoc.c s14
     refine bk z.pm s15 (i:=1) rfl rfl rfl ?_
     have hxe:(kc.calls.set n (some { y with fPa:=true,fBb:=(fMa.begin_ kc.fFa n).1.1 }))[n]? = some (some { y with fPa:=true,fBb:=(fMa.begin_ kc.fFa n).1.1 }):=by simp [hncc]
     refine ld_c1 (j:=0) (fMa.begin_ kc.fFa n).1.1 s15 rfl hpx hxe rfl rfl ?_
     have he:fMa.is kc.fFa n = true:=by
      unfold fMa.is
      have:=okc.el
      have:=okc.cl
      exact decide_eq_true (by omega)
     have eb:(fMa.begin_ kc.fFa n).1.1 = (kc.fFa.1.length:Int) + 1:=by unfold fMa.begin_; rw [if_pos he]
     refine bP (sp_mail_All z.pm kc.fJa n (fMa.begin_ kc.fFa n).1.1 ?_) (i:=5) rfl s15 fun r h16 hr s16=>?_
     ·intro l hl
      rw [eb]
      exact box_fit (hbx l hl) (by omega)
     ·refine aX rfl (oV (k:=KK.send kc n y) ⟨zoc.t,by simpa [KK.send] using zoc.c⟩ okw (bd [1,1,1,1,1,1,1,0,0] s16 rfl))
    ·have hno:(y.fPa = false/\KK.takes kt.p y = true) = False:=by simp [d4]
     have s8:=call_in (y:=y) hpx hnct zot.c (bd [1,2] s6 rfl)
     rw [iN hxt] at s8
     have s9:aF (mA z kt) h5:=bd [1,1,1,1,1,1,1,0,0] s8 rfl
     refine ld_c1 (j:=7) y.fPa s9 rfl hpx hxt rfl rfl ?_
     refine dn d3' ?_
     exact j2 false hno (by rw [d3']; rfl) _ s9
   ·have d3':y.fPa = true:=by simpa using d3
    unfold ja
    refine dn rfl ?_
    refine ld_c1 (j:=7) y.fPa s3 rfl hpx hxt rfl rfl ?_
    refine dL d3' ?_
    refine bk z.pe s3 (i:=0) rfl rfl rfl ?_
    refine ld_c1 (j:=7) y.fBb s3 rfl hpx hxt rfl rfl ?_
    refine bP (sp_epoch_Done z.pe kt.fFa y.fBb) (i:=5) rfl s3 fun r h4 hr s4=>?_
    subst hr
    exact j2 _ (by simp [d3']) (by rw [d3']; rfl) _ s4
theorem sp_kern_Post (x:Ptr) (k:KK) (c:Int) (hn:k.now < 2 ^ 37):Sp prog qe [pv x,.int .i64 c] aC [cL x k] (fun r=>pa_ (r = (KK.post k c).1) [cL x (KK.post k c).2]):=by
 intro h s0
 refine sim_kern_Kern_Post _ _ ?_
 unfold uh
 refine bP (wB x k c) (i:=0) rfl s0 fun r h1 hr s1=>?_
 subst hr
 refine aY (fun d=>?_) (fun d=>?_)
 ·have e1:KK.post k c = (false,k):=if_pos (by simpa using d)
  rw [e1]; exact aX rfl s1
 ·have d':KK.is k c = true:=by simpa using d
  obtain ⟨z,rfl,zo,ok,st⟩:=sj s1
  have okp:=kok_post ok (by omega) c
  obtain ⟨n,rfl,hnc⟩:=is_nat d'
  refine cD (bk z.pm st (i:=0) rfl rfl rfl ?_)
  refine bP (sp_mail_Take z.pm k.fJa n) (i:=4) rfl st fun r h2 hr s2=>?_
  subst hr
  refine aY (fun d2=>?_) (fun d2=>?_)
  ·have d2':(Mail.take k.fJa n).1.2 = false:=by simpa using d2
   have e1:KK.post k n = (false,k):=by unfold KK.post; rw [if_neg (by simp [d']),if_pos d2']
   have e2:(Mail.take k.fJa n).2 = k.fJa:=by
    unfold Mail.take at d2' ⊢; split
    ·rfl
    ·rename_i hh; rw [if_neg hh] at d2'; cases d2'
   rw [e1]
   rw [e2] at s2
   exact aX rfl (oV zo ok s2)
  ·have e1:KK.post k n = (true,{ KK.clean { KK.tick k with fJa:=(Mail.take k.fJa n).2 } n with fFa:=(fMa.ack k.fFa n (Mail.take k.fJa n).1.1).2 }):=by
    unfold KK.post; rw [if_neg (by simp [d']),if_neg (by simpa using d2)]
   rw [e1] at okp ⊢
   refine bk k.now s2 (i:=0) rfl rfl rfl ?_
   refine uL (i:=0) s2 rfl (Nat.le_of_ble_eq_true rfl) fun h3 s3=>?_
   have s4:aF (mA z { KK.tick k with fJa:=(Mail.take k.fJa n).2 }) h3:=s3
   have okt:=kok_tick ok (by omega)
   have hbl:(Mail.take k.fJa n).2.length = k.fJa.length:=by unfold Mail.take; split <;> simp
   have hb:∀ l ∈ (Mail.take k.fJa n).2,mB k.fFa.1.length l:=by
    unfold Mail.take; split
    ·exact ok.bx
    ·exact boxes_set ok.bx _ (box_drop (box_of ok.bx n))
   have ok2:KK.Ok { KK.tick k with fJa:=(Mail.take k.fJa n).2 }:=⟨okt.p,okt.tl,by simp only [hbl]; exact ok.bl,okt.el,okt.cl,okt.cs,okt.n0,okt.evn,okt.epn,hb⟩
   refine cQ [0,0,0,0,0,0,0,0,0] (sp_kern_clean z { KK.tick k with fJa:=(Mail.take k.fJa n).2 } n hnc ⟨zo.t,zo.c⟩ ok2) s4 rfl fun r h5 s5=>?_
   have s6:=dB s5
   refine bk z.pe s6 (i:=0) rfl rfl rfl ?_
   refine bP (sp_epoch_Ack z.pe k.fFa n _) (i:=5) rfl s6 fun r h7 hr s7=>?_
   refine aX rfl (oV (z:=z) ⟨?_,zo.c⟩ okp s7)
   simpa [KK.clean,KK.tick] using zo.t
theorem sp_kern_Mail (x:Ptr) (k:KK) (c:Int):Sp prog qf [pv x,.int .i64 c] ee [cL x k] (fun r=>pa_ (r = KK.mail k c) [cL x k]):=by
 intro h s0
 refine sim_kern_Kern_Mail _ _ ?_
 unfold ui
 refine bP (wB x k c) (i:=0) rfl s0 fun r h1 hr s1=>?_
 subst hr
 refine aY (fun d=>?_) (fun d=>?_)
 ·exact aX (by unfold KK.mail; rw [if_neg (by simpa using d)]) s1
 ·obtain ⟨z,rfl,zo,ok,st⟩:=sj s1
  refine cD (bk z.pm st (i:=0) rfl rfl rfl ?_)
  refine bP (sp_mail_Waits z.pm k.fJa c) (i:=4) rfl st fun r h2 hr s2=>?_
  exact aX (by unfold KK.mail; rw [if_pos (by simpa using d),hr]) (oV zo ok s2)
theorem sp_slices_CloneE (s:Sl) (xs:List bm) (hb:xs.length < 2 ^ 38):Sp prog eR [sv s] dS [vE s xs] (fun r=>aF [vE r xs,vE s xs]):=by
 intro h s0
 refine mC _ ?_
 unfold gY
 refine aY (fun k=>?_) (fun k=>?_)
 ·have hn:xs = []:=by
   obtain ⟨_,⟨e1,e2,e3⟩,_⟩:=dH (i:=0) rfl s0
   rcases e3 with e3 | ⟨b,pre,rest,U,fr,h4,_⟩
   ·exact List.eq_nil_of_length_eq_zero (by omega)
   ·rw [h4] at k; cases k
  subst hn
  exact fN s0
 ·refine fy (τ:=bm) [] (val:=fun x=>.agg x.C.toArray) (enc:=av.C) qv mI (fun _=>rfl) s0 rfl rfl (by simp) fun y h' s1=>?_
  refine tH (τ:=bm) (i:=0) (j:=1) (enc:=av.C) (xs:=[]) (ys:=xs) qv qv.sl mI ev_one s1 rfl rfl (by omega) (by simp; omega) (by simp; omega) fun v h2 s2=>?_
  exact s2
theorem ov (x:Ptr) (k:KK) (hb:k.now < 2 ^ 38):Sp prog eS [pv x] dS [cL x k] (fun r=>aF [vE r k.events,cL x k]):=by
 intro h s0
 obtain ⟨z,rfl,zo,ok,st⟩:=sj s0
 have:=ok.evn
 refine sim_kern_Kern_Events _ ?_
 unfold rJ
 refine dn rfl (cD (bk z.es st (i:=0) rfl rfl rfl ?_))
 refine wh (sp_slices_CloneE z.es k.events (by omega)) (i:=8) rfl st fun r h1 s1=>?_
 exact star_tail s1 fun h2 s2=>oV zo ok s2
theorem sp_kern_Cap (x:Ptr) (k:KK) (e s:Int):Sp prog rn [pv x,.int .i64 e,.int .i64 s] cn [cL x k] (fun r=>pa_ (r = fAa.at_ k.p.caps e s) [cL x k]):=by
 intro h s0
 obtain ⟨z,rfl,zo,ok,st⟩:=sj s0
 refine sim_kern_Kern_Cap _ _ _ ?_
 unfold vx
 refine dn rfl (cD (bk z.pp st (i:=0) rfl rfl rfl ?_))
 exact bP (rW z.pp k.p e s) (i:=1) rfl st fun r h1 hr s1=>aX hr (oV zo ok s1)
end
section
open Go Mb
set_option linter.unusedVariables false
def eX (a0:Ptr) (Rec7:(Bool × Int)->Hp->Prop) (s6:Bool × Int) (s11:Unit):Hp->Prop:=cl prog fU [(pv a0),(.int .i64 s6.2)] aC fun r37=>cl prog fU [(pv a0),(.int .i64 s6.2)] aC fun r43=>br r43 ( cl prog mf [(pv a0),(.int .i64 s6.2)] aC fun r46=>Rec7 ((r37 || s6.1),(IntKind.i64.wrap (s6.2 + 1)))) ( Rec7 ((r37 || s6.1),(IntKind.i64.wrap (s6.2 + 1))))
def gA (a0:Ptr) (Rec7:(Bool × Int)->Hp->Prop) (s6:Bool × Int) (Rec20:Int->Hp->Prop) (s19:Int):Hp->Prop:=br (decide (s19 < 5000)) ( cl prog qf [(pv a0),(.int .i64 s6.2)] ee fun r27=>br (decide (r27 > 0)) ( cl prog qe [(pv a0),(.int .i64 s6.2)] aC fun r34=>Rec20 (IntKind.i64.wrap (s19 + 1))) ( eX a0 Rec7 s6 ())) ( eX a0 Rec7 s6 ())
def gB (a0:Ptr) (a1:Int) (K:Bool->Hp->Prop) (Rec2:Int->Hp->Prop) (s1:Int) (Rec7:(Bool × Int)->Hp->Prop) (s6:Bool × Int):Hp->Prop:=br (decide (s6.2 < a1)) ( Lp (gA a0 Rec7 s6) 0) ( br (!s6.1) ( K true) ( Rec2 (IntKind.i64.wrap (s1 + 1))))
def gy (a0:Ptr) (a1:Int) (K:Bool->Hp->Prop) (Rec34:Int->Hp->Prop) (s33:Int):Hp->Prop:=br (decide (s33 < a1)) ( cl prog fU [(pv a0),(.int .i64 s33)] aC fun r56=>br r56 ( K false) ( Rec34 (IntKind.i64.wrap (s33 + 1)))) ( K true)
def jC (a0:Ptr) (a1:Int) (a2:Int) (K:Bool->Hp->Prop) (Rec2:Int->Hp->Prop) (s1:Int):Hp->Prop:=br (decide (s1 < a2)) ( Lp (gB a0 a1 K Rec2 s1) (false,0)) ( Lp (gy a0 a1 K) 0)
def nN (a0:Ptr) (a1:Int) (a2:Int) (K:Bool->Hp->Prop):Hp->Prop:=Lp (jC a0 a1 a2 K) 0
theorem uQ (a0:Ptr) (a1:Int) (a2:Int) {K:Bool->Hp->Prop} {h:Hp} (H:nN a0 a1 a2 K h):Ct prog fw #[(pv a0),(.int .i64 a1),(.int .i64 a2)] h fun v h'=>∃ r,v = aC r/\K r h':=ay [(pv a0),(.int .i64 a1),(.int .i64 a2)] func29 c c c fun _=>M<|O c<|al<|M<|O c<|aA<|bE (step:=jC a0 a1 a2 K) (fun s1=>[(0,(pv a0)),(1,(.int .i64 a1)),(2,(.int .i64 a2)),(7,(.int .i64 s1))]) (fun s1=>[]) H (.cons c<|.cons c<|.cons c<|.cons c<|.nil _) .slnil fun Rec2 s1 _ H3=>al<|M<|J c<|J c<|p (cx c c)<|ad<|aw c H3 (fun k4 H5=>ao<|al<|aA<|M<|O c<|al<|M<|O c<|aA<|bE (step:=gB a0 a1 K Rec2 s1) (fun s6=>[(0,(pv a0)),(1,(.int .i64 a1)),(2,(.int .i64 a2)),(7,(.int .i64 s1)),(8,(.bool s6.1)),(9,(.int .i64 s6.2))]) (fun s6=>[]) H5 (.cons c<|.cons c<|.cons c<|.cons c<|.cons c<|.cons c<|.nil _) .slnil fun Rec7 s6 _ H8=>al<|M<|J c<|J c<|p (cx c c)<|ad<|aw c H8 (fun k9 H10=>ao<|al<|aA<|eG (eX a0 Rec7 s6) (fun s11=>[(0,(pv a0)),(1,(.int .i64 a1)),(2,(.int .i64 a2)),(7,(.int .i64 s1)),(8,(.bool s6.1)),(9,(.int .i64 s6.2))]) (fun s11=>[]) (M<|O c<|aA<|bE (step:=gA a0 Rec7 s6) (fun s19=>[(0,(pv a0)),(1,(.int .i64 a1)),(2,(.int .i64 a2)),(7,(.int .i64 s1)),(8,(.bool s6.1)),(9,(.int .i64 s6.2)),(10,(.int .i64 s19))]) (fun s19=>[]) H10 (.cons c<|.cons c<|.cons c<|.cons c<|.cons c<|.cons c<|.cons c<|.nil _) .slnil fun Rec20 s19 _ H21=>al<|M<|J c<|p (cx c c)<|J c<|V c c (aB _) (fun g22=>wv<|ah c)<|V c c (aB _) (fun g23=>wv<|ah c)<|bS H21 (fun k25 H26=>F (D k25)<|fZ H26 en_73 (aS (aD c k25)<|aS (aD c k25) bR) c fun r27 _ H27=>F (D k25)<|R (qB c c)<|p (aT c k25 c)<|ad<|aw c H27 (fun k28 H29=>ao<|al<|aA<|ap<|J c<|J c<|aa<|Z H29 en_46 fun r34 _ H30=>ad<|ap<|J c<|p (bo c c)<|O c<|cN (IntKind.i64.wrap (s19 + 1)) H30 (.cons c<|.cons c<|.cons c<|.cons c<|.cons c<|.cons c<|.cons c<|.nil _) .slnil) fun k28 H29=>bi<|cM () H29 (.cons c<|.cons c<|.cons c<|.cons c<|.cons c<|.cons c<|.nil _) .slnil) fun k25 H26=>W (aU k25)<|W (aU k25)<|p (aq c k25 c)<|ad<|ev_no c c<|bi<|cM () H26 (.cons c<|.cons c<|.cons c<|.cons c<|.cons c<|.cons c<|.nil _) .slnil) fun s11 _ H12=>M<|J c<|J c<|aa<|Z H12 en_31 fun r37 _ H13=>J c<|V c c (aL _) (fun g14=>wv<|ah c)<|p (dp c c)<|O c<|M<|J c<|J c<|aa<|Z H13 en_31 fun r43 _ H15=>ad<|aw c H15 (fun k16 H17=>ap<|J c<|J c<|aa<|Z H17 en_28 fun r46 _ H18=>ad<|ap<|J c<|p (bo c c)<|O c<|cN ((r37 || s6.1),(IntKind.i64.wrap (s6.2 + 1))) H18 (.cons c<|.cons c<|.cons c<|.cons c<|.cons c<|.cons c<|.nil _) .slnil) fun k16 H17=>ao<|ap<|J c<|p (bo c c)<|O c<|cN ((r37 || s6.1),(IntKind.i64.wrap (s6.2 + 1))) H17 (.cons c<|.cons c<|.cons c<|.cons c<|.cons c<|.cons c<|.nil _) .slnil) fun k9 H10=>bi<|M<|J c<|p (cr c)<|ad<|aw c H10 (fun k31 H32=>M<|O c<|aj<|Y ⟨true,c,H32⟩) fun k31 H32=>ao<|ap<|J c<|p (bo c c)<|O c<|cN (IntKind.i64.wrap (s1 + 1)) H32 (.cons c<|.cons c<|.cons c<|.cons c<|.nil _) .slnil) fun k4 H5=>bi<|al<|M<|O c<|aA<|bE (step:=gy a0 a1 K) (fun s33=>[(0,(pv a0)),(1,(.int .i64 a1)),(11,(.int .i64 s33))]) (fun s33=>[]) H5 (.cons c<|.cons c<|.cons c<|.nil _) .slnil fun Rec34 s33 _ H35=>al<|M<|J c<|J c<|p (cx c c)<|ad<|aw c H35 (fun k36 H37=>ao<|al<|aA<|M<|J c<|J c<|aa<|Z H37 en_31 fun r56 _ H38=>ad<|aw c H38 (fun k39 H40=>M<|O c<|aj<|Y ⟨false,c,H40⟩) fun k39 H40=>ao<|ap<|J c<|p (bo c c)<|O c<|cN (IntKind.i64.wrap (s33 + 1)) H40 (.cons c<|.cons c<|.cons c<|.nil _) .slnil) fun k36 H37=>bi<|M<|O c<|aj<|Y ⟨true,c,H37⟩
def gj (a1:Int) (K:(ab × Bool)->Hp->Prop) (r24:Sl) (Rec9:(Int × ab)->Hp->Prop) (s8:Int × ab):Hp->Prop:=br (decide (s8.1 >= 0)) ( ix r24 s8.1 fun q34=>ld (q34.1,q34.2 + Int.toNat s8.1 * 16 + 0) (cI .i64) fun x36=>br (x36 == a1) ( both ( ld (q34.1,q34.2 + Int.toNat s8.1 * 16 + 10) ab.C fun x43=>ld (q34.1,q34.2 + Int.toNat s8.1 * 16 + 9) (cI .i64) fun x48=>K (x43,(decide (x48 > 0)))) ( ld (q34.1,q34.2 + Int.toNat s8.1 * 16 + 9) (cI .i64) fun x48=>ld (q34.1,q34.2 + Int.toNat s8.1 * 16 + 10) ab.C fun x43=>K (x43,(decide (x48 > 0))))) ( Rec9 ((IntKind.i64.wrap (s8.1 - 1)),s8.2))) ( K ((⟨0,0⟩:ab),false))
def qO (a0:Ptr) (a1:Int) (a2:Int) (a3:ai) (K:(ab × Bool)->Hp->Prop):Hp->Prop:=cl prog kX [(pv a0),(.int .i64 a1),(.int .i64 a2),(.agg (ai.C a3).toArray)] aC fun r16=>br (!r16) ( K ((⟨0,0⟩:ab),false)) ( cl prog fw [(pv a0),(.int .i64 8),(.int .i64 1000)] aC fun r20=>br (!r20) ( K ((⟨0,0⟩:ab),false)) ( cl prog eS [(pv a0)] dS fun r24=>Lp (gj a1 K r24) ((IntKind.i64.wrap ((r24.len:Int) - 1)),(⟨0,0⟩:ab))))
theorem sim_messuagelaw16_Run (a0:Ptr) (a1:Int) (a2:Int) (a3:ai) {K:(ab × Bool)->Hp->Prop} {h:Hp} (H:qO a0 a1 a2 a3 K h):Ct prog eE #[(pv a0),(.int .i64 a1),(.int .i64 a2),(.agg (ai.C a3).toArray)] h fun v h'=>∃ r,v = bj r/\K r h':=ay [(pv a0),(.int .i64 a1),(.int .i64 a2),(.agg (ai.C a3).toArray)] func16 c c c fun _=>M<|aa<|cO (l:=ai.C a3) c c c fun b7=>aa<|aM (l:=ab.C (⟨0,0⟩:ab)) de c c fun b8=>O c<|al<|M<|J c<|J c<|J c<|bh (bF (k:=1) fz c c c c) c<|aa<|Z H en_27 fun r16 _ H1=>p (cr c)<|ad<|aw c H1 (fun k2 H3=>M<|p (ba (vs:=[]) c tF)<|aa<|aP (k:=0) (vs:=ab.C (⟨0,0⟩:ab)) bO c c c c c c c<|O c<|aj<|bv (bN c (bC (k:=0) c cE c c)<|cc c) ⟨((⟨0,0⟩:ab),false),c,H3⟩) fun k2 H3=>ao<|al<|M<|J c<|aa<|Z H3 en_29 fun r20 _ H4=>p (cr c)<|ad<|aw c H4 (fun k5 H6=>M<|p (ba (vs:=[]) c tF)<|aa<|aP (k:=0) (vs:=ab.C (⟨0,0⟩:ab)) bO c c c c c c c<|O c<|aj<|bv (bN c (bC (k:=0) c cE c c)<|cc c) ⟨((⟨0,0⟩:ab),false),c,H6⟩) fun k5 H6=>ao<|M<|J c<|aa<|Z H6 en_20 fun r24 _ H7=>O c<|al<|M<|J c<|p (dz c underlying42 c)<|p (v_sub c c)<|O c<|aA<|bE (step:=gj a1 K r24) (fun s8=>[(1,(.int .i64 a1)),(8,(.pointer (some ⟨b8,0,none⟩))),(10,(sv r24)),(11,(.int .i64 s8.1))]) (fun s8=>[bx b8 30 (ab.C s8.2)]) H7 (.cons c<|.cons c<|.cons c<|.cons c<|.nil _) (.cons_cons _<|.cons _ .slnil) fun Rec9 s8 _ H10=>al<|M<|J c<|p (jJ c c)<|ad<|aw c H10 (fun k11 H12=>ao<|al<|aA<|M<|J c<|J c<|cm H12 fun q34 e13 h14 H15=>p (bq rg (aN c<|bb e13) c h14)<|p (ae qX c)<|aa<|aW H15 aZ c (fun _=>c) c fun x36 H16=>J c<|p (bQ c c)<|ad<|aw c H16 (fun k17 H18=>al<|bn (n:=13) [] cu c (.cons _ .slnil)<|U 0 c (ah c)<|U 1 c (ah c)<|U 2 c (bq rg (aN c<|bb e13) c h14)<|U 3 c (ae kv c)<|U 5 c (ah c)<|U 6 c (ah c)<|U 7 c (bq rg (aN c<|bb e13) c h14)<|U 8 c (ae qW c)<|jD H18 fun H19_1 H19_2=>jE (i:=4) (j:=9) (by kernel_rfl) (cF c c<|gP H19_1 cE c (fun _=>c) c fun x43 H20=>⟨.cons _ .slnil,jE (i:=9) (j:=11) (by kernel_rfl) (cF c c<|aW H20 aZ c (fun _=>c) c fun x48 H22=>⟨.cons _ .slnil,U 10 c (qB c c)<|G 11 c<|aP (k:=0) (vs:=ab.C x43) bO c c c c c c c ⟨.cons _ .slnil,U 12 c (au c)<|aV (by kernel_rfl)<|aj<|bv (bN c (bC (k:=0) c cE c c)<|cc c) ⟨(x43,(decide (x48 > 0))),c,H22⟩⟩⟩)<|cF c c<|aP (k:=0) (vs:=ab.C x43) bO c c c c c c c ⟨.cons _ .slnil,bI (i:=9) (fun _ _ _ _ hh=>hh) H20 c (by kernel_rfl) aZ c (fun _=>c) c fun x48 H22=>U 10 c (qB c c)<|U 12 c (au c)<|aV (by kernel_rfl)<|aj<|bv (bN c (bC (k:=0) c cE c c)<|cc c) ⟨(x43,(decide (x48 > 0))),c,H22⟩⟩⟩)<|cF c c<|aW H19_2 aZ c (fun _=>c) c fun x48 H20=>⟨.cons _ .slnil,U 10 c (qB c c)<|xw (i:=4) (fun _ _ _ _ hh=>hh) H20 c (by kernel_rfl) cE c (fun _=>c) c fun x43 H21=>G 11 c<|aP (k:=0) (vs:=ab.C x43) bO c c c c c c c ⟨.cons _ .slnil,U 12 c (au c)<|aV (by kernel_rfl)<|aj<|bv (bN c (bC (k:=0) c cE c c)<|cc c) ⟨(x43,(decide (x48 > 0))),c,H21⟩⟩⟩) fun k17 H18=>ao<|ap<|J c<|p (v_sub c c)<|O c<|cN ((IntKind.i64.wrap (s8.1 - 1)),s8.2) H18 (.cons c<|.cons c<|.cons c<|.cons c<|.nil _)<|.cons_cons _ .slnil) fun k11 H12=>bi<|M<|p (ba (vs:=[]) c tF)<|aa<|aP (k:=0) (vs:=ab.C (⟨0,0⟩:ab)) bO c c c c c c c<|O c<|aj<|bv (bN c (bC (k:=0) c cE c c)<|cc c) ⟨((⟨0,0⟩:ab),false),c,H12⟩
def oC (K:Bool->Hp->Prop):Hp->Prop:=cl prog xj [(.agg (aE.C (⟨2,2,3⟩:aE)).toArray)] sx fun r21=>br r21.isNone ( K false) ( cl prog eE [(pv r21),(.int .i64 0),(.int .i64 0),(.agg (ai.C (⟨1,1,0,0,0⟩:ai)).toArray)] bj fun r27=>cl prog eE [(pv r21),(.int .i64 0),(.int .i64 0),(.agg (ai.C (⟨6,4,1,3,0⟩:ai)).toArray)] bj fun r33=>cl prog eE [(pv r21),(.int .i64 1),(.int .i64 0),(.agg (ai.C (⟨21,4,2,9,0⟩:ai)).toArray)] bj fun r39=>cl prog eE [(pv r21),(.int .i64 0),(.int .i64 0),(.agg (ai.C (⟨20,4,2,0,0⟩:ai)).toArray)] bj fun r45=>cl prog eE [(pv r21),(.int .i64 0),(.int .i64 0),(.agg (ai.C (⟨7,4,0,0,0⟩:ai)).toArray)] bj fun r51=>cl prog eS [(pv r21)] dS fun r55=>cl prog oQ [(sv r55),(.agg (aE.C (⟨2,2,3⟩:aE)).toArray)] bL fun r59=>cl prog oR [(sv r55),(.agg (aE.C (⟨2,2,3⟩:aE)).toArray)] bL fun r65=>cl prog uU [(.int .i64 2),(.int .i64 3)] oe fun r68=>cl prog kJ [] aC fun r69=>br (((((((((((((((r69 && r27.2) && r33.2) && r39.2) && r45.2) && r51.2) && (r27.1.fWa == 0)) && (r33.1.fWa == 0)) && (r39.1.fWa == 0)) && (r45.1.fVal == 9)) && (r51.1.fWa == 0)) && ((r55.len:Int) == 5)) && (r59.1 == (-1))) && r59.2) && (r65.1 == (-1))) && r65.2) ( cl prog xk [(sv r55),(.agg (aE.C (⟨2,2,3⟩:aE)).toArray)] aC fun r132=>br r132 ( cl prog oS [(sv r55)] cC fun r136=>br (((r136.len:Int) == 5) && ((r68.len:Int) == 12)) ( cl prog n_fair_Fair [(sv r68),(.int .i64 2),(.int .i64 5)] aC fun r147=>br r147 ( cl prog n_twin_View [(sv r55),(.int .i64 0)] nc fun r151=>br ((r151.len:Int) == 5) ( cl prog qt [(sv r55),(.agg (aE.C (⟨2,2,3⟩:aE)).toArray)] aC fun r158=>K r158) ( K false)) ( K false)) ( K false)) ( K false)) ( K false))
theorem vm {K:Bool->Hp->Prop} {h:Hp} (H:oC K h):Ct prog kH #[] h fun v h'=>∃ r,v = aC r/\K r h':=ay [] func14 c c c fun _=>M<|O c<|M<|p (ba c<|tG 2 2 3)<|aa<|aM (l:=aE.C (⟨0,0,0⟩:aE)) zero_25 c c fun b1=>aa<|aP (k:=0) (vs:=aE.C (⟨2,2,3⟩:aE)) inf_25 c c c c c c c<|ad<|M<|bh (bF (k:=0) pO c c c c) c<|aa<|Z H en_23 fun r21 _ H1=>O c<|al<|M<|J c<|p (cq underlying26 c)<|ad<|aw c H1 (fun k2 H3=>M<|O c<|aj<|Y ⟨false,c,H3⟩) fun k2 H3=>ao<|M<|J c<|p (ba c<|kh 1 1)<|aa<|Z H3 en_16 fun r27 _ H4=>J c<|p (ak c c)<|p (ak c c)<|aa<|aM (l:=ab.C (⟨0,0⟩:ab)) de c c fun b3=>aa<|aP (k:=0) (vs:=ab.C r27.1) bO c c c c c c c<|O c<|M<|J c<|p (ba c<|jG 6 4 1 3)<|aa<|Z H4 en_16 fun r33 _ H5=>J c<|p (ak c c)<|p (ak c c)<|aa<|aM (l:=ab.C (⟨0,0⟩:ab)) de c c fun b5=>aa<|aP (k:=0) (vs:=ab.C r33.1) bO c c c c c c c<|O c<|M<|J c<|p (ba c<|jG 21 4 2 9)<|aa<|Z H5 en_16 fun r39 _ H6=>J c<|p (ak c c)<|p (ak c c)<|aa<|aM (l:=ab.C (⟨0,0⟩:ab)) de c c fun b7=>aa<|aP (k:=0) (vs:=ab.C r39.1) bO c c c c c c c<|O c<|M<|J c<|p (ba c<|tE 20 4 2)<|aa<|Z H6 en_16 fun r45 _ H7=>J c<|p (ak c c)<|p (ak c c)<|aa<|aM (l:=ab.C (⟨0,0⟩:ab)) de c c fun b9=>aa<|aP (k:=0) (vs:=ab.C r45.1) bO c c c c c c c<|O c<|M<|J c<|p (ba c<|kh 7 4)<|aa<|Z H7 en_16 fun r51 _ H8=>J c<|p (ak c c)<|p (ak c c)<|aa<|aM (l:=ab.C (⟨0,0⟩:ab)) de c c fun b11=>aa<|aP (k:=0) (vs:=ab.C r51.1) bO c c c c c c c<|O c<|M<|J c<|aa<|Z H8 en_20 fun r55 _ H9=>O c<|M<|J c<|bh (bF (k:=5) pO c c c c) c<|aa<|Z H9 en_47 fun r59 _ H10=>J c<|p (ak c c)<|p (ak c c)<|p (au c)<|O c<|M<|J c<|bh (bF (k:=5) pO c c c c) c<|aa<|Z H10 en_48 fun r65 _ H11=>J c<|p (ak c c)<|p (ak c c)<|p (au c)<|O c<|M<|aa<|Z H11 en_49 fun r68 _ H12=>O c<|M<|aa<|Z H12 en_50 fun r69 _ H13=>J c<|V c c (aB _) (fun g14=>wv<|ah c)<|p (bT c c)<|J c<|V c c (aB _) (fun g15=>wv<|ah c)<|p (bT c c)<|J c<|V c c (aB _) (fun g16=>wv<|ah c)<|p (bT c c)<|J c<|V c c (aB _) (fun g17=>wv<|ah c)<|p (bT c c)<|J c<|V c c (aB _) (fun g18=>wv<|ah c)<|p (bT c c)<|J c<|V c c (aB _) (fun g19=>wv<|ae kx c)<|V c c (aB _) (fun g20=>cv<|bf (k:=4) oG (aD c g20) c c)<|V c c (aB _) (fun g21=>wv<|bQ (aD c g21) c)<|p (bT c c)<|J c<|V c c (aB _) (fun g22=>wv<|ae kx c)<|V c c (aB _) (fun g23=>cv<|bf (k:=3) oG (aD c g23) c c)<|V c c (aB _) (fun g24=>wv<|bQ (aD c g24) c)<|p (bT c c)<|J c<|V c c (aB _) (fun g25=>wv<|ae kx c)<|V c c (aB _) (fun g26=>cv<|bf (k:=2) oG (aD c g26) c c)<|V c c (aB _) (fun g27=>wv<|bQ (aD c g27) c)<|p (bT c c)<|J c<|V c c (aB _) (fun g28=>wv<|ae fld_30_1 c)<|V c c (aB _) (fun g29=>cv<|bf (k:=1) cy (aD c g29) c c)<|V c c (aB _) (fun g30=>wv<|bQ (aD c g30) c)<|p (bT c c)<|J c<|V c c (aB _) (fun g31=>wv<|ae kx c)<|V c c (aB _) (fun g32=>cv<|bf (k:=0) oG (aD c g32) c c)<|V c c (aB _) (fun g33=>wv<|bQ (aD c g33) c)<|p (bT c c)<|J c<|V c c (aB _) (fun g34=>wv<|ah c)<|V c c (aB _) (fun g35=>wv<|dz c underlying42<|aD c g35)<|V c c (aB _) (fun g36=>wv<|bQ (aD c g36) c)<|p (bT c c)<|J c<|V c c (aB _) (fun g37=>wv<|ah c)<|V c c (aB _) (fun g38=>wv<|bQ (aD c g38) c)<|p (bT c c)<|J c<|V c c (aB _) (fun g39=>wv<|ah c)<|p (bT c c)<|J c<|V c c (aB _) (fun g40=>wv<|ah c)<|V c c (aB _) (fun g41=>wv<|bQ (aD c g41) c)<|p (bT c c)<|J c<|V c c (aB _) (fun g42=>wv<|ah c)<|p (bT c c)<|J c<|V c c (aB _) (fun g43=>wv<|ah c)<|V c c (aB _) (fun g44=>cv<|bF (k:=5) pO c c c c)<|bS H13 (fun k46 H47=>F (D k46)<|fZ H47 en_25 (aS (aD c k46)<|aS (aD c k46) bR) c fun r132 _ H48=>p (aT c k46 c)<|J c<|V c c (aB _) (fun g49=>wv<|ah c)<|bS H48 (fun k51 H52=>F (D k51)<|fZ H52 en_44 (aS (aD c k51) bR) c fun r136 _ H53=>F (D k51)<|R (dz c underlying39 c)<|F (D k51)<|R (bQ c c)<|p (aT c k51 c)<|J c<|V c c (aB _) (fun g54=>wv<|ah c)<|V c c (aB _) (fun g55=>wv<|dz c underlying45<|aD c g55)<|V c c (aB _) (fun g56=>wv<|bQ (aD c g56) c)<|p (bT c c)<|J c<|V c c (aB _) (fun g57=>wv<|ah c)<|bS H53 (fun k59 H60=>F (D k59)<|fZ H60 en_51 (aS (aD c k59)<|aS c<|aS c bR) c fun r147 _ H61=>p (aT c k59 c)<|J c<|V c c (aB _) (fun g62=>wv<|ah c)<|bS H61 (fun k64 H65=>F (D k64)<|fZ H65 en_52 (aS (aD c k64)<|aS c bR) c fun r151 _ H66=>F (D k64)<|R (dz c underlying101 c)<|F (D k64)<|R (bQ c c)<|p (aT c k64 c)<|J c<|V c c (aB _) (fun g67=>wv<|ah c)<|V c c (aB _) (fun g68=>cv<|bF (k:=5) pO c c c c)<|bS H66 (fun k70 H71=>F (D k70)<|fZ H71 en_19 (aS (aD c k70)<|aS (aD c k70) bR) c fun r158 _ H72=>p (aT c k70 c)<|O c<|aj<|Y ⟨r158,c,H72⟩) fun k70 H71=>W (aU k70)<|p (aq c k70 c)<|O c<|aj<|Y ⟨false,c,H71⟩) fun k64 H65=>W (aU k64)<|W (aU k64)<|W (aU k64)<|p (aq c k64 c)<|J c<|W c<|W c<|W c<|p (aq c c c)<|O c<|aj<|Y ⟨false,c,H65⟩) fun k59 H60=>W (aU k59)<|p (aq c k59 c)<|J c<|W c<|W c<|W c<|W c<|p (aq c c c)<|J c<|W c<|W c<|W c<|p (aq c c c)<|O c<|aj<|Y ⟨false,c,H60⟩) fun k51 H52=>W (aU k51)<|W (aU k51)<|W (aU k51)<|p (aq c k51 c)<|J c<|W c<|W c<|W c<|p (aq c c c)<|J c<|W c<|W c<|p (aq c c c)<|J c<|W c<|W c<|W c<|W c<|p (aq c c c)<|J c<|W c<|W c<|W c<|p (aq c c c)<|O c<|aj<|Y ⟨false,c,H52⟩) fun k46 H47=>W (aU k46)<|p (aq c k46 c)<|J c<|W c<|W c<|W c<|W c<|p (aq c c c)<|J c<|W c<|W c<|W c<|p (aq c c c)<|J c<|W c<|W c<|p (aq c c c)<|J c<|W c<|W c<|W c<|W c<|p (aq c c c)<|J c<|W c<|W c<|W c<|p (aq c c c)<|O c<|aj<|Y ⟨false,c,H47⟩
def kK (a1:Int) (K:av->Hp->Prop) (r9:Sl) (Rec3:(Int × av)->Hp->Prop) (s2:Int × av):Hp->Prop:=br (decide (s2.1 < (r9.len:Int))) ( ix r9 s2.1 fun q13=>ld (q13.1,q13.2 + Int.toNat s2.1 * 16) av.C fun x14=>br (x14.fQa == a1) ( Rec3 ((IntKind.i64.wrap (s2.1 + 1)),x14)) ( Rec3 ((IntKind.i64.wrap (s2.1 + 1)),s2.2))) ( K s2.2)
def pH (a0:Ptr) (a1:Int) (K:av->Hp->Prop):Hp->Prop:=cl prog eS [(pv a0)] dS fun r9=>Lp (kK a1 K r9) (0,(⟨0,0,(⟨0,0,0,0,0⟩:ai),0,0,0,(⟨0,0⟩:ab),(⟨0,0,0,0⟩:am)⟩:av))
theorem wO (a0:Ptr) (a1:Int) {K:av->Hp->Prop} {h:Hp} (H:pH a0 a1 K h):Ct prog gg #[(pv a0),(.int .i64 a1)] h fun v h'=>∃ r,v = rc r/\K r h':=ay [(pv a0),(.int .i64 a1)] func30 c c c fun _=>M<|aa<|aM (l:=av.C (⟨0,0,(⟨0,0,0,0,0⟩:ai),0,0,0,(⟨0,0⟩:ab),(⟨0,0,0,0⟩:am)⟩:av)) tN c c fun b4=>ad<|M<|aa<|aM (l:=av.C (⟨0,0,(⟨0,0,0,0,0⟩:ai),0,0,0,(⟨0,0⟩:ab),(⟨0,0,0,0⟩:am)⟩:av)) tN c c fun b5=>ad<|al<|M<|J c<|aa<|Z H en_20 fun r9 _ H1=>p (dz c underlying42 c)<|J c<|ad<|aA<|bE (step:=kK a1 K r9) (fun s2=>[(1,(.int .i64 a1)),(4,(.pointer (some ⟨b4,0,none⟩))),(5,(.pointer (some ⟨b5,0,none⟩))),(9,(sv r9)),(10,(.int .i64 (r9.len:Int))),(11,(.int .i64 s2.1))]) (fun s2=>[bx b5 56 (av.C s2.2),bx b4 56 (av.C (⟨0,0,(⟨0,0,0,0,0⟩:ai),0,0,0,(⟨0,0⟩:ab),(⟨0,0,0,0⟩:am)⟩:av))]) H1 (.cons c<|.cons c<|.cons c<|.cons c<|.cons c<|.cons c<|.nil _) (.cons_cons _<|.cons_cons _ .slnil) fun Rec3 s2 _ H4=>M<|p (cx c c)<|ad<|al<|aw c H4 (fun k5 H6=>ao<|al<|aA<|M<|cm H6 fun q13 e7 h8 H9=>p (bq rg (aN c<|bb e7) c h8)<|aa<|gP H9 uH c (fun _=>c) c fun x14 H10=>aa<|aM (l:=av.C (⟨0,0,(⟨0,0,0,0,0⟩:ai),0,0,0,(⟨0,0⟩:ab),(⟨0,0,0,0⟩:am)⟩:av)) tN c c fun b7=>aa<|aP (k:=0) (vs:=av.C x14) inf_56 c c c c c c c<|ad<|M<|p (ae qX c)<|bh (bf (k:=0) aZ c c c) c<|J c<|p (bQ c c)<|ad<|aw c H10 (fun k11 H12=>ap<|bh (bF (k:=0) uH c c c c) c<|aa<|aP (k:=1) (vs:=av.C x14) inf_56 c c c c c c c<|ad<|ap<|p (bo c c)<|J c<|ad<|cN ((IntKind.i64.wrap (s2.1 + 1)),x14) H12 (.cons c<|.cons c<|.cons c<|.cons c<|.cons c<|.cons c<|.nil _)<|.cons _<|.cons_cons _<|.cons_cons _ .slnil) fun k11 H12=>ao<|ap<|p (bo c c)<|J c<|ad<|cN ((IntKind.i64.wrap (s2.1 + 1)),s2.2) H12 (.cons c<|.cons c<|.cons c<|.cons c<|.cons c<|.cons c<|.nil _)<|.cons _<|.cons_cons _<|.cons_cons _ .slnil) fun k5 H6=>bi<|M<|bh (bF (k:=0) uH c c c c) c<|aa<|aP (k:=1) (vs:=av.C s2.2) inf_56 c c c c c c c<|ad<|aj<|bv (my c<|bC (k:=1) c uH c c) ⟨s2.2,c,H6⟩
def il (a0:Int) (a1:Int) (K:Bool->Hp->Prop) (r33:Ptr) (v74:(Option Nat)) (Rec34:Int->Hp->Prop) (s33:Int):Hp->Prop:=br (decide (s33 < (IntKind.i64.wrap (2 + ((IntKind.i64.wrap ((a0.tmod 6) + 6)).tmod 6))))) ( cl prog rn [(pv r33),(.int .i64 0),(.int .i64 s33)] cn fun r83=>cl prog gg [(pv r33),(.int .i64 s33)] rc fun r89=>hpv prog (Instr.field li (.agg (av.C r89).toArray) 6) eA fun (v90:ab)=>hpv prog (Instr.field lQ (.agg (ab.C v90).toArray) 0) bc fun (v91:Int)=>br ((!(!(r83.2 == (v91 == 0)))) && r83.2) ( hpv prog (Instr.lookup dF (.map v74) (.int .i64 r83.1.fEa) false) aC fun (v100:Bool)=>br ((!v100) && (!r83.2)) ( cl prog gg [(pv r33),(.int .i64 s33)] rc fun r109=>hpv prog (Instr.field li (.agg (av.C r109).toArray) 6) eA fun (v110:ab)=>hpv prog (Instr.field lQ (.agg (ab.C v110).toArray) 0) bc fun (v111:Int)=>br (v111 != 6) ( K false) ( hpu prog (Instr.mapUpdate dF (.map v74) (.int .i64 r83.1.fEa) (.bool true))<|Rec34 (IntKind.i64.wrap (s33 + 1)))) ( br (v100 || false) ( K false) ( hpu prog (Instr.mapUpdate dF (.map v74) (.int .i64 r83.1.fEa) (.bool true))<|Rec34 (IntKind.i64.wrap (s33 + 1))))) ( br ((!((!(r83.2 == (v91 == 0))) || false)) && (!r83.2)) ( cl prog gg [(pv r33),(.int .i64 s33)] rc fun r109=>hpv prog (Instr.field li (.agg (av.C r109).toArray) 6) eA fun (v110:ab)=>hpv prog (Instr.field lQ (.agg (ab.C v110).toArray) 0) bc fun (v111:Int)=>br (v111 != 6) ( K false) ( Rec34 (IntKind.i64.wrap (s33 + 1)))) ( br (((!(r83.2 == (v91 == 0))) || false) || false) ( K false) ( hpu prog (Instr.mapUpdate dF (.map v74) (.int .i64 r83.1.fEa) (.bool true))<|Rec34 (IntKind.i64.wrap (s33 + 1)))))) ( hpv prog (Builtin.len_ #[dF] km #[(.map v74)]) ee fun (v120:Int)=>br (v120 == (mn (IntKind.i64.wrap (2 + ((IntKind.i64.wrap ((a0.tmod 6) + 6)).tmod 6))) (IntKind.i64.wrap (1 + ((IntKind.i64.wrap ((a1.tmod 5) + 5)).tmod 5))))) ( cl prog eS [(pv r33)] dS fun r127=>cl prog qt [(sv r127),(.agg (aE.C (⟨(IntKind.i64.wrap (2 + ((IntKind.i64.wrap ((a0.tmod 6) + 6)).tmod 6))),1,(IntKind.i64.wrap (1 + ((IntKind.i64.wrap ((a1.tmod 5) + 5)).tmod 5)))⟩:aE)).toArray)] aC fun r129=>K r129) ( K false))
def im (a0:Int) (a1:Int) (a2:Sl) (K:Bool->Hp->Prop) (r33:Ptr) (Rec16:Int->Hp->Prop) (s15:Int):Hp->Prop:=br ((decide (s15 < (a2.len:Int))) && (decide (s15 < 60))) ( ix a2 s15 fun q61=>ld (q61.1,q61.2 + Int.toNat s15 * 1) (cI .i64) fun x62=>gd ((IntKind.i64.wrap (2 + ((IntKind.i64.wrap ((a0.tmod 6) + 6)).tmod 6))) ≠ 0)<|cl prog mf [(pv r33),(.int .i64 ((IntKind.i64.wrap ((x62.tmod (IntKind.i64.wrap (2 + ((IntKind.i64.wrap ((a0.tmod 6) + 6)).tmod 6)))) + (IntKind.i64.wrap (2 + ((IntKind.i64.wrap ((a0.tmod 6) + 6)).tmod 6))))).tmod (IntKind.i64.wrap (2 + ((IntKind.i64.wrap ((a0.tmod 6) + 6)).tmod 6)))))] aC fun r69=>Rec16 (IntKind.i64.wrap (s15 + 1))) ( cl prog fw [(pv r33),(.int .i64 (IntKind.i64.wrap (2 + ((IntKind.i64.wrap ((a0.tmod 6) + 6)).tmod 6)))),(.int .i64 1000)] aC fun r72=>br (!r72) ( K false) ( hpv prog (Instr.makeMap dF none) R_map_int_bool fun (v74:(Option Nat))=>Lp (il a0 a1 K r33 v74) 0))
def io (a0:Int) (a1:Int) (a2:Sl) (K:Bool->Hp->Prop) (r33:Ptr) (Rec8:Int->Hp->Prop) (s7:Int):Hp->Prop:=br (decide (s7 < (IntKind.i64.wrap (2 + ((IntKind.i64.wrap ((a0.tmod 6) + 6)).tmod 6))))) ( cl prog kX [(pv r33),(.int .i64 s7),(.int .i64 0),(.agg (ai.C (⟨1,(IntKind.u64.wrap s7),0,0,0⟩:ai)).toArray)] aC fun r46=>br (!r46) ( K false) ( Rec8 (IntKind.i64.wrap (s7 + 1)))) ( Lp (im a0 a1 a2 K r33) 0)
def ll (a0:Int) (a1:Int) (a2:Sl) (K:Bool->Hp->Prop):Hp->Prop:=cl prog kH [] aC fun r16=>br (!r16) ( K false) ( cl prog xj [(.agg (aE.C (⟨(IntKind.i64.wrap (2 + ((IntKind.i64.wrap ((a0.tmod 6) + 6)).tmod 6))),1,(IntKind.i64.wrap (1 + ((IntKind.i64.wrap ((a1.tmod 5) + 5)).tmod 5)))⟩:aE)).toArray)] sx fun r33=>br r33.isNone ( K false) ( Lp (io a0 a1 a2 K r33) 0))
theorem rZ (a0:Int) (a1:Int) (a2:Sl) {K:Bool->Hp->Prop} {h:Hp} (H:ll a0 a1 a2 K h):Ct prog mz #[(.int .i64 a0),(.int .i64 a1),(sv a2)] h fun v h'=>∃ r,v = aC r/\K r h':=ay [(.int .i64 a0),(.int .i64 a1),(sv a2)] func5 c c c fun _=>M<|O c<|M<|aa<|Z H en_14 fun r16 _ H1=>O c<|al<|M<|J c<|p (cr c)<|ad<|aw c H1 (fun k2 H3=>M<|O c<|aj<|Y ⟨false,c,H3⟩) fun k2 H3=>ao<|M<|J c<|p (v_rem c c (by decide))<|p (bo c c)<|p (v_rem c c (by decide))<|p (bo c c)<|J c<|p (v_rem c c (by decide))<|p (bo c c)<|p (v_rem c c (by decide))<|p (bo c c)<|p (au c)<|O c<|M<|J c<|J c<|p (ba c<|tG (IntKind.i64.wrap (2 + ((IntKind.i64.wrap ((a0.tmod 6) + 6)).tmod 6))) 1<|IntKind.i64.wrap (1 + ((IntKind.i64.wrap ((a1.tmod 5) + 5)).tmod 5)))<|aa<|aM (l:=aE.C (⟨0,0,0⟩:aE)) zero_25 c c fun b8=>aa<|aP (k:=0) (vs:=aE.C (⟨(IntKind.i64.wrap (2 + ((IntKind.i64.wrap ((a0.tmod 6) + 6)).tmod 6))),1,(IntKind.i64.wrap (1 + ((IntKind.i64.wrap ((a1.tmod 5) + 5)).tmod 5)))⟩:aE)) inf_25 c c c c c c c<|ad<|M<|bh (bF (k:=0) pO c c c c) c<|aa<|Z H3 en_23 fun r33 _ H4=>O c<|al<|M<|J c<|p (cq underlying26 c)<|ad<|aw c H4 (fun k5 H6=>M<|O c<|aj<|Y ⟨false,c,H6⟩) fun k5 H6=>ao<|al<|M<|O c<|aA<|bE (step:=io a0 a1 a2 K r33) (fun s7=>[(0,(.int .i64 (IntKind.i64.wrap (2 + ((IntKind.i64.wrap ((a0.tmod 6) + 6)).tmod 6))))),(1,(.int .i64 (IntKind.i64.wrap (1 + ((IntKind.i64.wrap ((a1.tmod 5) + 5)).tmod 5))))),(2,(sv a2)),(8,(.pointer (some ⟨b8,0,none⟩))),(9,(pv r33)),(10,(.int .i64 s7))]) (fun s7=>[bx b8 25 (aE.C (⟨(IntKind.i64.wrap (2 + ((IntKind.i64.wrap ((a0.tmod 6) + 6)).tmod 6))),1,(IntKind.i64.wrap (1 + ((IntKind.i64.wrap ((a1.tmod 5) + 5)).tmod 5)))⟩:aE))]) H6 (.cons c<|.cons c<|.cons c<|.cons c<|.cons c<|.cons c<|.nil _) (.cons_cons _ .slnil) fun Rec8 s7 _ H9=>al<|M<|J c<|J c<|p (cx c c)<|ad<|aw c H9 (fun k10 H11=>ao<|al<|aA<|M<|J c<|J c<|J c<|p (dT ⟨_,underlying3⟩ underlying22 c)<|p (ba c<|kh 1<|IntKind.u64.wrap s7)<|aa<|Z H11 en_27 fun r46 _ H12=>p (cr c)<|ad<|aw c H12 (fun k13 H14=>M<|O c<|aj<|Y ⟨false,c,H14⟩) fun k13 H14=>ao<|ap<|J c<|p (bo c c)<|O c<|cN (IntKind.i64.wrap (s7 + 1)) H14 (.cons c<|.cons c<|.cons c<|.cons c<|.cons c<|.cons c<|.nil _)<|.cons_cons _ .slnil) fun k10 H11=>bi<|al<|M<|O c<|aA<|bE (step:=im a0 a1 a2 K r33) (fun s15=>[(0,(.int .i64 (IntKind.i64.wrap (2 + ((IntKind.i64.wrap ((a0.tmod 6) + 6)).tmod 6))))),(1,(.int .i64 (IntKind.i64.wrap (1 + ((IntKind.i64.wrap ((a1.tmod 5) + 5)).tmod 5))))),(2,(sv a2)),(8,(.pointer (some ⟨b8,0,none⟩))),(9,(pv r33)),(11,(.int .i64 s15))]) (fun s15=>[bx b8 25 (aE.C (⟨(IntKind.i64.wrap (2 + ((IntKind.i64.wrap ((a0.tmod 6) + 6)).tmod 6))),1,(IntKind.i64.wrap (1 + ((IntKind.i64.wrap ((a1.tmod 5) + 5)).tmod 5)))⟩:aE))]) H11 (.cons c<|.cons c<|.cons c<|.cons c<|.cons c<|.cons c<|.nil _) (.cons_cons _ .slnil) fun Rec16 s15 _ H17=>al<|M<|J c<|J c<|p (dz c underlying39 c)<|p (cx c c)<|J c<|V c c (aB _) (fun g18=>wv<|ah c)<|V c c (aB _) (fun g19=>wv<|cx (aD c g19) c)<|p (bT c c)<|ad<|aw c H17 (fun k20 H21=>ao<|al<|aA<|ap<|J c<|J c<|J c<|cm H21 fun q61 e22 h23 H24=>p (bq ia (aN c<|bb e22) c h23)<|aa<|aW H24 aZ c (fun _=>c) c fun x62 H25=>J c<|iD H25 fun z26 H27=>p (v_rem c c z26)<|J c<|p (bo c c)<|J c<|p (v_rem c c z26)<|aa<|Z H27 en_28 fun r69 _ H28=>ad<|ap<|J c<|p (bo c c)<|O c<|cN (IntKind.i64.wrap (s15 + 1)) H28 (.cons c<|.cons c<|.cons c<|.cons c<|.cons c<|.cons c<|.nil _)<|.cons_cons _ .slnil) fun k20 H21=>bi<|al<|M<|J c<|J c<|aa<|Z H21 en_29 fun r72 _ H29=>p (cr c)<|ad<|aw c H29 (fun k30 H31=>M<|O c<|aj<|Y ⟨false,c,H31⟩) fun k30 H31=>ao<|M<|aa<|aR H31 x_makeMap0 c fun v74 _ H32=>O c<|al<|M<|O c<|aA<|bE (step:=il a0 a1 K r33 v74) (fun s33=>[(0,(.int .i64 (IntKind.i64.wrap (2 + ((IntKind.i64.wrap ((a0.tmod 6) + 6)).tmod 6))))),(1,(.int .i64 (IntKind.i64.wrap (1 + ((IntKind.i64.wrap ((a1.tmod 5) + 5)).tmod 5))))),(8,(.pointer (some ⟨b8,0,none⟩))),(9,(pv r33)),(12,(.map v74)),(13,(.int .i64 s33))]) (fun s33=>[bx b8 25 (aE.C (⟨(IntKind.i64.wrap (2 + ((IntKind.i64.wrap ((a0.tmod 6) + 6)).tmod 6))),1,(IntKind.i64.wrap (1 + ((IntKind.i64.wrap ((a1.tmod 5) + 5)).tmod 5)))⟩:aE))]) H32 (.cons c<|.cons c<|.cons c<|.cons c<|.cons c<|.cons c<|.nil _) (.cons_cons _ .slnil) fun Rec34 s33 _ H35=>al<|M<|J c<|J c<|p (cx c c)<|ad<|aw c H35 (fun k36 H37=>ao<|al<|aA<|M<|J c<|J c<|aa<|Z H37 en_17 fun r83 _ H38=>J c<|p (ak c c)<|p (ak c c)<|aa<|aM (l:=ax.C (⟨0,0,0,0⟩:ax)) gu c c fun b14=>aa<|aP (k:=0) (vs:=ax.C r83.1) fL c c c c c c c<|O c<|al<|M<|J c<|J c<|J c<|aa<|Z H38 en_30 fun r89 _ H39=>aa<|aR H39 (vb c) c fun v90 _ H40=>aa<|aR H40 (vb c) c fun v91 _ H41=>p (bQ c c)<|p (v_bne underlying4 c c)<|J c<|V c c (aL _) (fun g42=>wv<|ah c)<|V c c (aL _) (fun g43=>wv<|ah<|aD c g43)<|V c c (fM _ _) (fun g44=>wv<|ah c)<|V c c (fM _ _) (fun g45=>wv<|ae lK c)<|V c c (fM _ _) (fun g46=>cv<|bf (k:=0) aZ (aD c g46) c c)<|bS H41 (fun k48 H49=>F ((gv_t (b_l k48) _).trans<|D<|b_r k48)<|aR H49 (x_lookup (aD c k48)<|aD c k48) c fun v100 _ H50=>F (D<|bW<|b_l k48)<|R (aT (aD c<|b_l k48) (b_r k48) c)<|p (aq c (bW<|b_l k48) c)<|J c<|V c c (aL _) (fun g51=>wv<|ah c)<|V c c (aL _) (fun g52=>wv<|cr<|aD c g52)<|V c c (aL _) (fun g53=>wv<|ah<|aD c g53)<|V c c (fM _ _) (fun g54=>wv<|ah c)<|V c c (fM _ _) (fun g55=>wv<|ah c)<|bS H50 (fun k57 H58=>F ((gv_t (b_l k57) _).trans<|D<|b_r k57)<|fZ H58 en_30 (aS (aD c k57)<|aS (aD c k57) bR) c fun r109 _ H59=>F ((gv_t (b_l k57) _).trans<|D<|b_r k57)<|aR H59 (vb c) c fun v110 _ H60=>F ((gv_t (b_l k57) _).trans<|D<|b_r k57)<|aR H60 (vb c) c fun v111 _ H61=>F ((gv_t (b_l k57) _).trans<|D<|b_r k57)<|R (pt c c)<|F (D<|bW<|b_l k57)<|R (aT (aD c<|b_l k57) (b_r k57) c)<|p (aq c (bW<|b_l k57) c)<|ad<|aw c H61 (fun k62 H63=>M<|O c<|aj<|Y ⟨false,c,H63⟩) fun k62 H63=>ao<|M<|J c<|ad<|ke c (b_r k48)<|ap<|J c<|p (ae lK c)<|bh (bf (k:=0) aZ c c c) c<|aa<|to_hpu H63 (lc c c c) fun _ H64=>ad<|ap<|J c<|p (bo c c)<|O c<|cN (IntKind.i64.wrap (s33 + 1)) H64 (.cons c<|.cons c<|.cons c<|.cons c<|.cons c<|.cons c<|.nil _)<|.cons _<|.cons_cons _ .slnil) fun k57 H58=>W ((fM _ _).trans k57)<|W ((fM _ _).trans k57)<|W ((fM _ _).trans k57)<|W ((fM _ _).trans k57)<|V c c (aL _) (fun g65=>wv<|aq (aD c g65) (b_andr k57 g65) c)<|p (dp c c)<|ad<|aw c H58 (fun k66 H67=>M<|O c<|aj<|Y ⟨false,c,H67⟩) fun k66 H67=>ao<|M<|J c<|ad<|ke c (bH<|b_andr k57 (by rw [(b_ol k66)]; rfl))<|ap<|J c<|p (ae lK c)<|bh (bf (k:=0) aZ c c c) c<|aa<|to_hpu H67 (lc c c c) fun _ H68=>ad<|ap<|J c<|p (bo c c)<|O c<|cN (IntKind.i64.wrap (s33 + 1)) H68 (.cons c<|.cons c<|.cons c<|.cons c<|.cons c<|.cons c<|.nil _)<|.cons _<|.cons_cons _ .slnil) fun k48 H49=>W ((fM _ _).trans k48)<|V c c (aL _) (fun g69=>wv<|aq (aD c g69) (b_andr k48 g69) c)<|p (dp c c)<|J c<|V c c (aL _) (fun g70=>wv<|ah c)<|V c c (aL _) (fun g71=>wv<|cr<|aD c g71)<|V c c (aL _) (fun g72=>wv<|ah<|aD c g72)<|V c c (fM _ _) (fun g73=>wv<|ah c)<|V c c (fM _ _) (fun g74=>wv<|ah c)<|bS H49 (fun k76 H77=>F ((gv_t (b_l k76) _).trans<|D<|b_r k76)<|fZ H77 en_30 (aS (aD c k76)<|aS (aD c k76) bR) c fun r109 _ H78=>F ((gv_t (b_l k76) _).trans<|D<|b_r k76)<|aR H78 (vb c) c fun v110 _ H79=>F ((gv_t (b_l k76) _).trans<|D<|b_r k76)<|aR H79 (vb c) c fun v111 _ H80=>F ((gv_t (b_l k76) _).trans<|D<|b_r k76)<|R (pt c c)<|F (D<|bW<|b_l k76)<|R (aT (aD c<|b_l k76) (b_r k76) c)<|p (aq c (bW<|b_l k76) c)<|ad<|aw c H80 (fun k81 H82=>M<|O c<|aj<|Y ⟨false,c,H82⟩) fun k81 H82=>ao<|M<|J c<|ad<|ev_no c (b_andr k48 (by rw [(b_ol (bW (b_l k76)))]; rfl))<|ao<|ap<|J c<|p (bo c c)<|O c<|cN (IntKind.i64.wrap (s33 + 1)) H82 (.cons c<|.cons c<|.cons c<|.cons c<|.cons c<|.cons c<|.nil _)<|.cons _<|.cons_cons _ .slnil) fun k76 H77=>W ((fM _ _).trans k76)<|W ((fM _ _).trans k76)<|W ((fM _ _).trans k76)<|W ((fM _ _).trans k76)<|V c c (aL _) (fun g83=>wv<|aq (aD c g83) (b_andr k76 g83) c)<|p (dp c c)<|ad<|aw c H77 (fun k84 H85=>M<|O c<|aj<|Y ⟨false,c,H85⟩) fun k84 H85=>ao<|M<|J c<|ad<|ke c (bH<|b_andr k76 (by rw [(b_ol k84)]; rfl))<|ap<|J c<|p (ae lK c)<|bh (bf (k:=0) aZ c c c) c<|aa<|to_hpu H85 (lc c c c) fun _ H86=>ad<|ap<|J c<|p (bo c c)<|O c<|cN (IntKind.i64.wrap (s33 + 1)) H86 (.cons c<|.cons c<|.cons c<|.cons c<|.cons c<|.cons c<|.nil _)<|.cons _<|.cons_cons _ .slnil) fun k36 H37=>bi<|al<|bn (n:=13) [bx b8 25 (aE.C (⟨(IntKind.i64.wrap (2 + ((IntKind.i64.wrap ((a0.tmod 6) + 6)).tmod 6))),1,(IntKind.i64.wrap (1 + ((IntKind.i64.wrap ((a1.tmod 5) + 5)).tmod 5)))⟩:aE))] cu c (.cons_cons _ .slnil)<|U 0 c (ah c)<|U 2 c (ah c)<|U 3 c (ah c)<|U 4 c (v_minT c c)<|G 1 c<|aR H37 (x_lenM c) c fun v120 _ H87=>⟨.cons_cons _ .slnil,U 5 c (bQ c c)<|U 6 c (ah c)<|pd H87 (fun k88 H89=>z_n 7 c (D k88) (ve<|ah c)<|z_n 9 c (D k88) (eo (k:=0) pO c c c c)<|eva_1 (i:=8) (by kernel_rfl)<|way_on c c c c (D k88)<|Z H89 en_20 fun r127 _ H90=>⟨.cons_cons _ .slnil,eva_1 (i:=10) (by kernel_rfl)<|way_on c c c c (D k88)<|Z H90 en_19 fun r129 _ H91=>⟨.cons_cons _ .slnil,U 11 c (aT c k88 c)<|U 12 c (au c)<|aV (by kernel_rfl)<|aj<|Y ⟨r129,c,H91⟩⟩⟩) fun k88 H89=>I 7 c (aU k88)<|I 8 c (aU k88)<|I 9 c (aU k88)<|I 10 c (aU k88)<|U 11 c (aq c k88 c)<|U 12 c (au c)<|aV (by kernel_rfl)<|aj<|Y ⟨false,c,H89⟩⟩
end
section
open Go Mb
namespace KK
def drain (c:Int):Nat->KK->KK
 | 0,k=>k
 | n + 1,k=>if 0 < mail k c then drain c n (post k c).2 else k
def turn1 (k:KK) (c:Int):KK × Bool:=if busy (drain c 5000 k) c = true then ((step (drain c 5000 k) c).2,true) else (drain c 5000 k,false)
def sweep:Nat->Int->KK->Bool->KK × Bool
 | 0,_,k,b=>(k,b)
 | n + 1,c,k,b=>sweep n (c + 1) (turn1 k c).1 ((turn1 k c).2 || b)
def anyBusy (k:KK):Nat->Int->Bool
 | 0,_=>false
 | n + 1,c=>busy k c || anyBusy k n (c + 1)
def settle (cores:Nat):Nat->KK->Bool × KK
 | 0,k=>(!anyBusy k cores 0,k)
 | n + 1,k=>if (sweep cores 0 k false).2 = false then (true,(sweep cores 0 k false).1) else settle cores n (sweep cores 0 k false).1
def lastA (core:Int) (es:List bm):Nat->eH × Bool
 | 0=>(⟨0,0⟩,false)
 | n + 1=>match es[n]? with
  | some e=>if e.fQa = core then (e.fYa,decide (e.fXa > 0)) else lastA core es n
  | none=>(⟨0,0⟩,false)
def run (k:KK) (core env:Int) (c:da):(eH × Bool) × KK :=
 if (begin_ k core env c).1 = false then ((⟨0,0⟩,false),(begin_ k core env c).2)
 else if (settle 8 1000 (begin_ k core env c).2).1 = false then ((⟨0,0⟩,false),(settle 8 1000 (begin_ k core env c).2).2)
 else (lastA core (settle 8 1000 (begin_ k core env c).2).2.events (settle 8 1000 (begin_ k core env c).2).2.events.length,(settle 8 1000 (begin_ k core env c).2).2)
theorem access_now (k:KK) (c:Int) (x:KC):(access k c x).2.now = k.now:=by unfold access; split; rfl; split <;> rfl
theorem work_now (k:KK) (c:Int) (x:KC):(work k c x).now = k.now:=by
 unfold work
 split
 ·exact access_now k c x
 ·split
  ·rfl
  ·split
   ·rfl
   ·split <;> rfl
theorem step_now {k:KK} (h0:0 <= k.now) (h:k.now < 2 ^ 38) (c:Int):k.now <= (step k c).2.now/\(step k c).2.now <= k.now + 1:=by
 have hw:=wrapN h0 (by omega)
 unfold step
 split
 ·exact ⟨Int.le_refl _,by show k.now <= k.now + 1; omega⟩
 ·split
  ·exact ⟨Int.le_refl _,by show k.now <= k.now + 1; omega⟩
  ·show _ <= (work _ _ _).now/\(work _ _ _).now <= _
   rw [work_now]
   simp only [tick,hw]; omega
theorem post_now {k:KK} (h0:0 <= k.now) (h:k.now < 2 ^ 38) (c:Int):k.now <= (post k c).2.now/\(post k c).2.now <= k.now + 1:=by
 have hw:=wrapN h0 (by omega)
 unfold post
 split
 ·exact ⟨Int.le_refl _,by show k.now <= k.now + 1; omega⟩
 ·split
  ·exact ⟨Int.le_refl _,by show k.now <= k.now + 1; omega⟩
  ·show _ <= (tick k).now/\(tick k).now <= _
   simp only [tick,hw]; omega
theorem begin_now {k:KK} (h0:0 <= k.now) (h:k.now < 2 ^ 38) (core env:Int) (c:da):k.now <= (begin_ k core env c).2.now/\(begin_ k core env c).2.now <= k.now + 1:=by
 have hw:=wrapN h0 (by omega)
 unfold begin_
 split
 ·exact ⟨Int.le_refl _,by show k.now <= k.now + 1; omega⟩
 ·simp only [hw]; omega
end KK
section
variable {x:Ptr} {l:List As}
theorem kern_n0 {k:KK} {h:Hp} (s:aF (cL x k::l) h):0 <= k.now/\k.events.length <= k.now:=by
 obtain ⟨z,_,_,ok,_⟩:=sj s
 exact ⟨ok.n0,ok.evn⟩
theorem settle_l3 {Rec:Bool × Int->Hp->Prop} {k:KK} {b:Bool} {c:Int} {h:Hp} (h0:0 <= c) (hc:c < 100) (hn:k.now + 5001 < 2 ^ 37) (st:aF (cL x k::l) h)
  (kk:∀ h',(KK.turn1 k c).1.now <= k.now + 5001->aF (cL x (KK.turn1 k c).1::l) h'->Rec ((KK.turn1 k c).2 || b,c + 1) h'):Lp (gA x Rec (b,c)) 0 h:=by
 have hj:∀ d h',KK.drain c 5000 k = d->d.now <= k.now + 5000->aF (cL x d::l) h'->eX x Rec (b,c) () h':=by
  intro d h' e hd s1
  unfold eX
  refine bP (i:=0) (ow x d c) rfl s1 fun r h2 hr s2=>?_
  refine bP (i:=0) (ow x d c) rfl s2 fun r' h3 hr' s3=>?_
  subst hr; subst hr'
  have hw:IntKind.i64.wrap (c + 1) = c + 1:=bM (by omega) (by omega)
  simp only [hw]
  refine aY (fun k2=>?_) (fun k2=>?_)
  ·refine bP (i:=0) (sp_kern_Step x d c (by omega)) rfl s3 fun r h4 hr s4=>?_
   have e2:KK.turn1 k c = ((KK.step d c).2,true):=by unfold KK.turn1; rw [e,if_pos k2]
   have n1:=kern_n0 s3
   have n2:=KK.step_now n1.1 (by omega) c
   rw [e2] at kk
   rw [k2]
   exact kk h4 (by show (KK.step d c).2.now <= _; omega) s4
  ·have e2:KK.turn1 k c = (d,false):=by unfold KK.turn1; rw [e,if_neg (by rw [k2]; exact Bool.false_ne_true)]
   rw [e2] at kk
   rw [k2]
   exact kk h3 (by show d.now <= _; omega) s3
 refine Lp.intro (fun (m:Int) h=>∃ (n:Nat) (d:KK),m = 5000 - n/\n <= 5000/\KK.drain c n d = KK.drain c 5000 k/\d.now <= k.now + (5000 - n)/\aF (cL x d::l) h) (fun m _=>(5000 - m).toNat) ⟨5000,k,rfl,Nat.le_refl _,rfl,by omega,st⟩ ?_
 rintro m h1 ⟨n,d,rfl,hm,e,hd,s1⟩
 unfold gA
 refine aY (fun k1=>?_) (fun k1=>?_)
 ·have hlt:0 < n:=by have:=of_decide_eq_true k1; omega
  obtain ⟨n,rfl⟩:∃ j,n = j + 1:=⟨n - 1,by omega⟩
  refine bP (i:=0) (sp_kern_Mail x d c) rfl s1 fun r h2 hr s2=>?_
  subst hr
  refine aY (fun k2=>?_) (fun k2=>?_)
  ·have k2':0 < KK.mail d c:=of_decide_eq_true k2
   refine bP (i:=0) (sp_kern_Post x d c (by omega)) rfl s2 fun r h3 hr s3=>?_
   have n1:=kern_n0 s2
   have n2:=KK.post_now n1.1 (by omega) c
   have hw:IntKind.i64.wrap ((5000:Int) - ((n + 1:Nat):Int) + 1) = 5000 - (n:Int):=by rw [bM (by omega) (by omega)]; omega
   rw [hw]
   refine ⟨⟨n,_,rfl,by omega,?_,by omega,s3⟩,by show (5000 - (5000 - (n:Int))).toNat < (5000 - (5000 - ((n + 1:Nat):Int))).toNat; omega⟩
   rw [← e]
   exact (if_pos k2').symm
  ·have k2':¬ 0 < KK.mail d c:=of_decide_eq_false k2
   exact hj d h2 (by rw [← e]; exact if_neg k2') (by omega) s2
 ·have hz:n = 0:=by have:=of_decide_eq_false k1; omega
  subst hz
  exact hj d h1 e.symm (by omega) s1
theorem settle_l2 {Rec2:Int->Hp->Prop} {K:Bool->Hp->Prop} {k:KK} {m:Int} {cores:Nat} {h:Hp} (hc:cores <= 8) (hn:k.now + cores * 5001 < 2 ^ 37) (st:aF (cL x k::l) h)
  (kt:∀ h',(KK.sweep cores 0 k false).2 = false->(KK.sweep cores 0 k false).1.now <= k.now + cores * 5001->aF (cL x (KK.sweep cores 0 k false).1::l) h'->K true h')
  (kf:∀ h',(KK.sweep cores 0 k false).2 = true->(KK.sweep cores 0 k false).1.now <= k.now + cores * 5001->aF (cL x (KK.sweep cores 0 k false).1::l) h'->Rec2 (IntKind.i64.wrap (m + 1)) h') :
  Lp (gB x cores K Rec2 m) (false,0) h:=by
 refine Lp.intro (fun (s:Bool × Int) h=>∃ (n:Nat) (d:KK),s.2 = (cores:Int) - n/\n <= cores/\KK.sweep n s.2 d s.1 = KK.sweep cores 0 k false/\d.now <= k.now + (cores - n) * 5001/\aF (cL x d::l) h) (fun s _=>cores - s.2.toNat)
  ⟨cores,k,by simp,Nat.le_refl _,rfl,by simp,st⟩ ?_
 rintro ⟨b,c⟩ h1 ⟨n,d,e0,hm,e,hd,s1⟩
 simp only at e0 e
 subst e0
 unfold gB
 refine aY (fun k1=>?_) (fun k1=>?_)
 ·have hlt:0 < n:=by have:=of_decide_eq_true k1; simp only at this; omega
  obtain ⟨n,rfl⟩:∃ j,n = j + 1:=⟨n - 1,by omega⟩
  have hq:(((cores:Int) - ((n + 1:Nat):Int)) * 5001) + 5001 = ((cores:Int) - n) * 5001:=by omega
  have hq2:((cores:Int) - n) * 5001 <= cores * 5001:=by omega
  refine settle_l3 (by omega) (by omega) (by omega) s1 fun h' hnow s2=>?_
  have hw:(cores:Int) - ((n + 1:Nat):Int) + 1 = (cores:Int) - n:=by omega
  refine ⟨⟨n,_,hw,by omega,?_,by omega,s2⟩,?_⟩
  ·rw [← e]; rfl
  ·show cores - ((cores:Int) - ((n + 1:Nat):Int) + 1).toNat < cores - ((cores:Int) - ((n + 1:Nat):Int)).toNat
   omega
 ·have hz:n = 0:=by have:=of_decide_eq_false k1; simp only at this; omega
  subst hz
  have e':(d,b) = KK.sweep cores 0 k false:=e
  refine aY (fun k2=>?_) (fun k2=>?_)
  ·have hb:b = false:=by simpa using k2
   rw [← e'] at kt
   exact kt h1 hb (by show d.now <= _; simpa using hd) s1
  ·have hb:b = true:=by simpa using k2
   rw [← e'] at kf
   exact kf h1 hb (by show d.now <= _; simpa using hd) s1
theorem settle_l4 {K:Bool->Hp->Prop} {k:KK} {cores:Nat} {h:Hp} (hc:cores <= 8) (st:aF (cL x k::l) h)
  (kk:∀ h',aF (cL x k::l) h'->K (!KK.anyBusy k cores 0) h'):Lp (gy x cores K) 0 h:=by
 refine Lp.intro (fun (c:Int) h=>∃ n:Nat,c = (cores:Int) - n/\n <= cores/\KK.anyBusy k n c = KK.anyBusy k cores 0/\aF (cL x k::l) h) (fun s _=>cores - s.toNat) ⟨cores,by simp,Nat.le_refl _,rfl,st⟩ ?_
 rintro c h1 ⟨n,rfl,hm,e,s1⟩
 unfold gy
 refine aY (fun k1=>?_) (fun k1=>?_)
 ·have hlt:0 < n:=by have:=of_decide_eq_true k1; omega
  obtain ⟨n,rfl⟩:∃ j,n = j + 1:=⟨n - 1,by omega⟩
  refine bP (i:=0) (ow x k _) rfl s1 fun r h2 hr s2=>?_
  subst hr
  have e':(KK.busy k ((cores:Int) - ((n + 1:Nat):Int)) || KK.anyBusy k n ((cores:Int) - ((n + 1:Nat):Int) + 1)) = KK.anyBusy k cores 0:=e
  refine aY (fun k2=>?_) (fun k2=>?_)
  ·rw [k2,Bool.true_or] at e'
   rw [← e'] at kk
   exact kk h2 s2
  ·rw [k2,Bool.false_or] at e'
   have hw:IntKind.i64.wrap ((cores:Int) - ((n + 1:Nat):Int) + 1) = (cores:Int) - ((n + 1:Nat):Int) + 1:=bM (by omega) (by omega)
   rw [hw]
   refine ⟨⟨n,by omega,by omega,e',s2⟩,by omega⟩
 ·have hz:n = 0:=by have:=of_decide_eq_false k1; omega
  subst hz
  have e':false = KK.anyBusy k cores 0:=e
  rw [← e'] at kk
  exact kk h1 s1
end
theorem sp_Settle (x:Ptr) (k:KK) (cores most:Nat) (hc:cores <= 8) (hm:most <= 1000) (hn:k.now < 2 ^ 36):Sp prog fw [pv x,.int .i64 cores,.int .i64 most] aC [cL x k]
  (fun r=>pa_ (r = (KK.settle cores most k).1/\(KK.settle cores most k).2.now <= k.now + most * 40008) [cL x (KK.settle cores most k).2]):=by
 intro h st
 refine uQ _ _ _ ?_
 unfold nN
 refine Lp.intro (fun (m:Int) h=>∃ (n:Nat) (d:KK),m = (most:Int) - n/\n <= most/\KK.settle cores n d = KK.settle cores most k/\d.now <= k.now + (most - n) * 40008/\aF [cL x d] h) (fun m _=>most - m.toNat)
  ⟨most,k,by simp,Nat.le_refl _,rfl,by simp,st⟩ ?_
 rintro m h1 ⟨n,d,rfl,hnm,e,hd,s1⟩
 unfold jC
 have hq:((most:Int) - n) * 40008 <= 1000 * 40008:=by omega
 have hq2:(cores:Int) * 5001 <= 40008:=by omega
 refine aY (fun k1=>?_) (fun k1=>?_)
 ·have hlt:0 < n:=by have:=of_decide_eq_true k1; omega
  obtain ⟨n,rfl⟩:∃ j,n = j + 1:=⟨n - 1,by omega⟩
  have e':(if (KK.sweep cores 0 d false).2 = false then (true,(KK.sweep cores 0 d false).1) else KK.settle cores n (KK.sweep cores 0 d false).1) = KK.settle cores most k:=e
  refine settle_l2 hc (by omega) s1 (fun h' hb hnow s2=>?_) (fun h' hb hnow s2=>?_)
  ·rw [if_pos hb] at e'
   rw [← e']
   exact aX ⟨rfl,by show (KK.sweep cores 0 d false).1.now <= _; omega⟩ s2
  ·rw [if_neg (by rw [hb]; decide)] at e'
   have hw:IntKind.i64.wrap ((most:Int) - ((n + 1:Nat):Int) + 1) = (most:Int) - n:=by rw [bM (by omega) (by omega)]; omega
   rw [hw]
   exact ⟨⟨n,_,rfl,by omega,e',by omega,s2⟩,by omega⟩
 ·have hz:n = 0:=by have:=of_decide_eq_false k1; omega
  subst hz
  have e':(!KK.anyBusy d cores 0,d) = KK.settle cores most k:=e
  refine settle_l4 hc s1 fun h' s2=>?_
  rw [← e']
  exact aX ⟨rfl,by show d.now <= _; simpa using hd⟩ s2
theorem run_yes {k:KK} {core env:Int} {c:da} {d e:KK} (h1:(KK.begin_ k core env c) = (true,d)) (h2:KK.settle 8 1000 d = (true,e)):KK.run k core env c = (KK.lastA core e.events e.events.length,e):=by
 unfold KK.run
 rw [h1]
 dsimp only
 rw [if_neg (by decide),h2]
 dsimp only
 rw [if_neg (by decide)]
theorem run_l1 {s:Sl} {es:List bm} {l:List As} {core:Int} {K:eH × Bool->Hp->Prop} {h:Hp} (hb:es.length < 2 ^ 38) (st:aF (vE s es::l) h)
  (kk:∀ h',aF (vE s es::l) h'->K (KK.lastA core es es.length) h'):Lp (gj core K s) (IntKind.i64.wrap ((s.len:Int) - 1),⟨0,0⟩) h:=by
 have hl:=(cj (j:=0) st rfl).1
 have hw0:IntKind.i64.wrap ((s.len:Int) - 1) = (es.length:Int) - 1:=by rw [hl,bM (by omega) (by omega)]
 rw [hw0]
 refine Lp.intro (fun (z:Int × eH) h=>∃ n:Nat,z = ((n:Int) - 1,⟨0,0⟩)/\n <= es.length/\KK.lastA core es n = KK.lastA core es es.length/\aF (vE s es::l) h) (fun z _=>(z.1 + 1).toNat) ⟨_,rfl,Nat.le_refl _,rfl,st⟩ ?_
 rintro _ h1 ⟨n,rfl,hn,e,s1⟩
 unfold gj
 refine aY (fun k1=>?_) (fun k1=>?_)
 ·have hlt:0 < n:=by have:=of_decide_eq_true k1; simp only at this; omega
  obtain ⟨n,rfl⟩:∃ j,n = j + 1:=⟨n - 1,by omega⟩
  have hn':n < es.length:=by omega
  have hi:((n + 1:Nat):Int) - 1 = (n:Int):=by omega
  simp only [hi]
  have e':(match es[n]? with
   | some e=>if e.fQa = core then (e.fYa,decide (e.fXa > 0)) else KK.lastA core es n
   | none=>(⟨0,0⟩,false)) = KK.lastA core es es.length:=e
  rw [aH hn'] at e'
  simp only at e'
  refine dy s1 (j:=0) rfl (by omega) (by show (n:Int) < _; omega) fun q hq=>?_
  have lk:∀ {σ:Type} {enc:σ->List Value} {K:σ->Hp->Prop} (y:σ) (o:Nat),(∀ i v,(enc y)[i]? = some v->(es[n].C)[o + i]? = some v)->K y h1->ld (q.1,q.2 + Int.toNat (n:Int) * 16 + o) enc K h1:=by
   intro σ enc K y o he k
   exact eB (j:=0) (i:=n) (k:=o) y mI s1 rfl hq (by simp) (aH hn') he k
  refine lk es[n].fQa 0 (fun i v hv=>?_) ?_
  ·rcases i with _ | i <;> first | exact hv | simp [cI] at hv
  refine aY (fun k2=>?_) (fun k2=>?_)
  ·have k2':es[n].fQa = core:=by simpa using k2
   rw [if_pos k2'] at e'
   have hA:∀ i v,(ab.C es[n].fYa)[i]? = some v->(es[n].C)[10 + i]? = some v:=by
    intro i v hv
    rcases i with _ | _ | i <;> first | exact hv | simp [ab.C] at hv
   have hE:∀ i v,((cI .i64) es[n].fXa)[i]? = some v->(es[n].C)[9 + i]? = some v:=by
    intro i v hv
    rcases i with _ | i <;> first | exact hv | simp [cI] at hv
   refine ⟨lk _ 10 hA (lk _ 9 hE ?_),lk _ 9 hE (lk _ 10 hA ?_)⟩
   ·rw [e']; exact kk h1 s1
   ·rw [e']; exact kk h1 s1
  ·have k2':¬ es[n].fQa = core:=by simpa using k2
   rw [if_neg k2'] at e'
   rw [bM (by omega) (by omega)]
   exact ⟨⟨n,rfl,by omega,e',s1⟩,by show ((n:Int) - 1 + 1).toNat < ((n:Int) + 1).toNat; omega⟩
 ·have hz:n = 0:=by have:=of_decide_eq_false k1; simp only at this; omega
  subst hz
  have e':((⟨0,0⟩,false):eH × Bool) = KK.lastA core es es.length:=e
  rw [← e'] at kk
  exact kk h1 s1
theorem run_no {k:KK} {core env:Int} {c:da} {d e:KK} (h1:(KK.begin_ k core env c) = (true,d)) (h2:KK.settle 8 1000 d = (false,e)):KK.run k core env c = ((⟨0,0⟩,false),e):=by
 unfold KK.run
 rw [h1]
 dsimp only
 rw [if_neg (by decide),h2]
 dsimp only
 rw [if_pos rfl]
theorem run_tail (x:Ptr) (k:KK) (core env:Int) (c:da) (d:KK) (h1:KK.begin_ k core env c = (true,d)) (hn:d.now <= k.now + 1) (hk:k.now < 2 ^ 35) {h:Hp} (s1:aF [cL x d] h) :
  (cl prog fw [(pv x),(.int .i64 8),(.int .i64 1000)] aC fun r20 =>
   br (!r20) ((fun r h'=>pa_ (r = (KK.run k core env c).1/\(KK.run k core env c).2.now <= k.now + 40008001) [cL x (KK.run k core env c).2] h') (⟨0,0⟩,false)) (
   cl prog eS [(pv x)] dS fun r24 =>
   Lp (gj core (fun r h'=>pa_ (r = (KK.run k core env c).1/\(KK.run k core env c).2.now <= k.now + 40008001) [cL x (KK.run k core env c).2] h') r24) ((IntKind.i64.wrap ((r24.len:Int) - 1)),(⟨0,0⟩:ab)))) h:=by
 have c8:=sp_Settle x d 8 1000 (Nat.le_refl _) (Nat.le_refl _) (by omega)
 generalize hz:KK.settle 8 1000 d = z at c8
 obtain ⟨b,e⟩:=z
 refine bP (i:=0) c8 rfl s1 fun r h2 hr s2=>?_
 obtain ⟨hr,hs⟩:=hr
 have hs':e.now <= d.now + 40008000:=hs
 have n2:=kern_n0 s2
 have hr':r = b:=hr
 rw [hr']
 cases b
 ·rw [run_no h1 hz]
  exact dL rfl (aX ⟨rfl,by show e.now <= _; omega⟩ s2)
 ·refine dn rfl ?_
  refine wh (i:=0) (ov x _ (by show e.now < _; omega)) rfl s2 fun s h3 s3=>?_
  refine run_l1 (by show e.events.length < _; have:(e.events.length:Int) <= e.now:=n2.2; omega) s3 fun h4 s4=>?_
  rw [run_yes h1 hz]
  exact aX ⟨rfl,by show e.now <= _; omega⟩ (ce (l:=[_]) s4)
theorem sp_Run (x:Ptr) (k:KK) (core env:Int) (c:da) (hn:k.now < 2 ^ 35):Sp prog eE [pv x,.int .i64 core,.int .i64 env,.agg c.C.toArray] bj [cL x k]
  (fun r=>pa_ (r = (KK.run k core env c).1/\(KK.run k core env c).2.now <= k.now + 40008001) [cL x (KK.run k core env c).2]):=by
 intro h st
 have n0:=kern_n0 st
 have nb:=KK.begin_now n0.1 (by omega) core env c
 refine sim_messuagelaw16_Run _ _ _ _ ?_
 unfold qO
 refine bP (i:=0) (sp_kern_Begin x k core env c (by omega)) rfl st fun r h1 hr s1=>?_
 subst hr
 refine aY (fun k1=>?_) (fun k1=>?_)
 ·have k1':(KK.begin_ k core env c).1 = false:=by simpa using k1
  have e:KK.run k core env c = ((⟨0,0⟩,false),(KK.begin_ k core env c).2):=if_pos k1'
  rw [e]
  exact aX ⟨rfl,by show (KK.begin_ k core env c).2.now <= _; omega⟩ s1
 ·have k1':(KK.begin_ k core env c).1 = true:=by simpa using k1
  exact run_tail x k core env c (KK.begin_ k core env c).2 (by rw [← k1']) (by omega) hn s1
end
section
open Go Mb
structure IE (k:KK):Prop where
 inv:fo k
 ev:jm k
theorem ie_new {s:fD} (h:PK.sized s = true):IE (KK.new s):=⟨inv_new h,evinv_new s⟩
theorem IE.begin {k:KK} (A:IE k) (hn:k.now < 2 ^ 40) (core env:Int) {c:da} (cw:Cw c):IE (KK.begin_ k core env c).2:=⟨A.inv.begin hn core env cw,A.ev.begin A.inv.ok hn core env c⟩
theorem IE.post {k:KK} (A:IE k) (hn:k.now < 2 ^ 40) (c:Int):IE (KK.post k c).2:=by
 have hI:=A.inv.post hn c
 have hw:=wrapN A.inv.ok.n0 hn
 have he:(KK.post k c).2.events = k.events/\(KK.post k c).2.p = k.p/\(KK.post k c).2.calls = k.calls/\k.now <= (KK.post k c).2.now:=by
  unfold KK.post
  split
  ·exact ⟨rfl,rfl,rfl,Int.le_refl _⟩
  ·split
   ·exact ⟨rfl,rfl,rfl,Int.le_refl _⟩
   ·exact ⟨rfl,rfl,rfl,by show k.now <= IntKind.i64.wrap (k.now + 1); omega⟩
 exact ⟨hI,A.ev.same he.1 (by rw [he.2.1]) he.2.2.2 (fun c x h=>⟨x,by rw [← he.2.2.1]; exact h,rfl,rfl,rfl⟩) (fun c x h=>⟨x,by rw [he.2.2.1]; exact h,rfl⟩)⟩
theorem do_wait {k:PK} {e:Int} {c:da} (h:(PK.do_ k e c).1.2 = false):(PK.do_ k e c).2 = k:=by
 unfold PK.do_ at h ⊢
 split
 ·rfl
 ·rename_i h1
  rw [if_neg h1] at h
  split
  ·rfl
  ·rename_i h2
   rw [if_neg h2] at h
   unfold PK.does PK.errs at h ⊢
   repeat' split
   all_goals first | rfl | (exfalso; simp_all; done)
theorem access_keep (k:KK) (c:Int) (x:KC):(KK.access k c x).2.events = k.events/\(KK.access k c x).2.now = k.now/\(KK.access k c x).2.p.s = k.p.s/\(KK.access k c x).2.calls = k.calls/\(KK.access k c x).2.fFa = k.fFa:=by
 unfold KK.access
 split
 ·exact ⟨rfl,rfl,rfl,rfl,rfl⟩
 ·split
  ·exact ⟨rfl,rfl,rfl,rfl,rfl⟩
  ·exact ⟨rfl,rfl,touch_s _ _ _,rfl,rfl⟩
theorem work_ev {k:KK} (E:jm k) (hlate:∀ (i:Nat) e,k.events[i]? = some e->e.fRa < k.now/\e.fHa < k.now) {c:Nat} {x:KC} (hc:c < k.calls.length) (hcx:k.calls[c]? = some (some x)):jm (KK.work k c x):=by
 unfold KK.work
 by_cases hu:bA (az x.fc).1 = true
 ·rw [if_pos hu]
  obtain ⟨h1,h2,h3,h4,_⟩:=access_keep k c x
  have E2:jm (KK.access k c x).2:=E.same h1 h3 (by rw [h2]; exact Int.le_refl _) (fun d y h=>⟨y,by rw [← h4]; exact h,rfl,rfl,rfl⟩) (fun d y h=>⟨y,by rw [h4]; exact h,rfl⟩)
  exact E2.ends (by rw [h4]; exact hcx) (by rw [h1,h2]; exact hlate) _ _
 ·rw [if_neg hu]
  split
  ·refine E.same rfl rfl (Int.le_refl _) (fun d y h=>?_) (fun d y h=>?_)
   ·simp only [KK.send,KK.clean,KK.tell,Int.toNat_natCast,List.set_set] at h
    rw [List.getElem?_set] at h
    split at h
    ·rename_i e
     refine ⟨x,e ▸ hcx,?_⟩
     simp only [hc,if_true,Option.some.injEq] at h
     rw [← h]; exact ⟨rfl,rfl,rfl⟩
    ·exact ⟨y,h,rfl,rfl,rfl⟩
   ·simp only [KK.send,KK.clean,KK.tell,Int.toNat_natCast,List.set_set]
    rw [List.getElem?_set]
    by_cases e:c = d
    ·subst e
     rw [hcx] at h
     cases h
     rw [if_pos rfl,if_pos hc]
     exact ⟨_,rfl,rfl⟩
    ·rw [if_neg e]; exact ⟨y,h,rfl⟩
  ·split
   ·exact E
   ·split
    ·have E2:jm { k with p:=(PK.do_ k.p x.fGa x.fc).2 }:=E.same rfl (do_s _ _ _) (Int.le_refl _) (fun d y h=>⟨y,h,rfl,rfl,rfl⟩) (fun d y h=>⟨y,h,rfl⟩)
     exact E2.ends hcx hlate _ _
    ·rename_i hdone
     rw [do_wait (by simpa using hdone)]
     exact E
theorem tick_now {k:KK} (ok:KK.Ok k) (hn:k.now < 2 ^ 40):(KK.tick k).now = k.now + 1:=wrapN ok.n0 hn
theorem tick_ev {k:KK} (ok:KK.Ok k) (E:jm k) (hn:k.now < 2 ^ 40):jm (KK.tick k):=E.same rfl rfl (by rw [tick_now ok hn]; omega) (fun c x h=>⟨x,h,rfl,rfl,rfl⟩) (fun c x h=>⟨x,h,rfl⟩)
theorem tick_late {k:KK} (ok:KK.Ok k) (E:jm k) (hn:k.now < 2 ^ 40):∀ (i:Nat) e,(KK.tick k).events[i]? = some e->e.fRa < (KK.tick k).now/\e.fHa < (KK.tick k).now:=fun i e h=>by
 have o:=E.one i e h
 rw [tick_now ok hn]
 have h1:=o.b1
 have h0:=o.b0
 rcases o.st with h2 | h2
 ·exact ⟨by omega,by rw [h2.1]; omega⟩
 ·exact ⟨by omega,by omega⟩
theorem IE.step {k:KK} (A:IE k) (hn:k.now < 2 ^ 40) (c:Int):IE (KK.step k c).2:=by
 refine ⟨A.inv.step hn c,?_⟩
 unfold KK.step
 split
 ·exact A.ev
 ·rename_i hb
  obtain ⟨hi,x,hx⟩:=busy_is (by simpa using hb)
  rw [hx]
  obtain ⟨n,rfl,hlt⟩:=lf hi
  exact work_ev (tick_ev A.inv.ok A.ev hn) (tick_late A.inv.ok A.ev hn) (by show n < k.calls.length; omega) (sE hx)
end
end Go.Proofs.YtemoifebbhoinaaGreatDoor
