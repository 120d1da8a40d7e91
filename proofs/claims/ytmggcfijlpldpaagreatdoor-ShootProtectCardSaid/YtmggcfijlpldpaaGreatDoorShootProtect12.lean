/- Part of the proof of: The law ShootProtect returns true for every input, and leaves its arguments as they were. -/
import Derived.Test.YtmggcfijlpldpaaGreatDoorShootProtect11
set_option linter.all false
set_option maxRecDepth 20000
namespace Go.Proofs.YtmggcfijlpldpaaGreatDoor
open Go Mb
structure KZ where
  b:Nat
  pp:Ptr
  ts:Sl
  tp:List Ptr
  pm:Ptr
  pe:Ptr
  cs:Sl
  cp:List Ptr
  es:Sl
abbrev kcl (z:KZ) (k:KK):List Value:=[pv z.pp,.int .i64 k.p.s.fEnvs,sv z.ts,pv z.pm,pv z.pe,sv z.cs,sv z.es,.int .i64 k.now]
abbrev lP (z:KZ) (k:KK):List As:=[blk z.b bZ (kcl z k),bk z.pp k.p,vQ rU z.ts z.tp,all fh z.tp k.tlbs,iO z.pm k.boxes,eO z.pe k.epochs,vQ eV z.cs z.cp,all ii z.cp k.calls,vE z.es k.events]
structure KZ.Ok (z:KZ) (k:KK):Prop where
  t:z.tp.length = k.tlbs.length
  c:z.cp.length = k.calls.length
def cG (x:Ptr) (k:KK):As:=fun h=>∃ z:KZ,(x = some (z.b,0)∧KZ.Ok z k∧KK.Ok k)∧aC (lP z k) h
theorem tQ {x:Ptr} {k:KK} {l:List As} {h:Hp} (s0:aC (cG x k::l) h):∃ z:KZ,x = some (z.b,0)∧KZ.Ok z k∧KK.Ok k∧aC (lP z k++l) h:=by
  obtain ⟨z,⟨hx,h1,ok⟩,st⟩:=op_ s0
  exact ⟨z,hx,h1,ok,st⟩
theorem pR {z:KZ} {k:KK} {l:List As} {h:Hp} (h1:KZ.Ok z k) (ok:KK.Ok k) (st:aC (lP z k++l) h):aC (cG (some (z.b,0)) k::l) h :=
  cl_ (m:=fun z:KZ=>lP z k) z ⟨rfl,h1,ok⟩ st
theorem kk_len {k:KK} (ok:KK.Ok k):k.tlbs.length = k.calls.length∧k.boxes.length = k.calls.length∧k.epochs.2.length = k.calls.length∧1 ≤ k.calls.length∧k.calls.length ≤ 8:=by
  have h1:=ok.tl; have h2:=ok.bl; have h3:=ok.el; have h4:=ok.cl; have h5:=jd.1 ok.p.sz
  omega
theorem is_nat {k:KK} {c:Int} (h:KK.is k c = true):∃ n:Nat,c = n∧n < k.calls.length:=by
  have:=of_decide_eq_true (show decide (0 ≤ c∧c < (k.calls.length:Int)) = true from h)
  exact ⟨c.toNat,by omega,by omega⟩
theorem call_nat {k:KK} {n:Nat} (h:n < k.calls.length):KK.call k n = k.calls[n]:=by simp [KK.call,h]
theorem buf_nat {k:KK} {n:Nat} (h:n < k.tlbs.length):KK.buf k n = k.tlbs[n]:=by simp [KK.buf,h]
theorem vx (x:Ptr) (k:KK) (c:Int):Sp Tryz.prog jh [pv x,.int .i64 c] ay [cG x k] (fun r=>pa_ (r = KK.is k c) [cG x k]):=by
  intro h s0
  obtain ⟨z,rfl,zo,ok,st⟩:=tQ s0
  have hcs:=(cd (j:=6) st rfl).1
  refine sim_kern_Kern_is _ _ ?_
  unfold sh_kern_Kern_is
  refine aV (fun d=>?_) (fun d=>?_)
  · have d':0 ≤ c:=by simpa using d
    refine cx (bi z.cs st (i:=0) rfl rfl rfl ?_)
    exact aU (by rw [hcs,zo.c]; simp [KK.is,d']) s0
  · have d':¬ 0 ≤ c:=by simpa using d
    exact aU (by simp [KK.is]; intro h; exact absurd h d') s0
theorem nM (x:Ptr) (k:KK) (c:Int):Sp Tryz.prog fA [pv x,.int .i64 c] ay [cG x k] (fun r=>pa_ (r = KK.busy k c) [cG x k]):=by
  intro h s0
  refine sim_kern_Kern_Busy _ _ ?_
  unfold tB
  refine bK (vx x k c) (i:=0) rfl s0 fun r h1 hr s1=>?_
  subst hr
  refine aV (fun d=>?_) (fun d=>?_)
  · obtain ⟨n,rfl,hn⟩:=is_nat d
    obtain ⟨z,rfl,zo,ok,st⟩:=tQ s1
    have hcs:=(cd (j:=6) st rfl).1
    have hn':n < z.cp.length:=by rw [zo.c]; exact hn
    refine cx (bi z.cs st (i:=0) rfl rfl rfl ?_)
    refine dv st (j:=6) rfl (by omega) (by omega) fun q hq=>?_
    refine dZ (j:=6) (i:=n) (k:=0) z.cp[n] gE st rfl hq (by simp) (aD hn') (by simp) ?_
    refine aU ?_ s1
    unfold KK.busy
    rw [d,call_nat hn]
    cases hc:k.calls[n] with
    | none =>
      have:=call_none (j:=7) st rfl (aD hn') (by rw [aD hn,hc])
      rw [this]; rfl
    | some y =>
      obtain ⟨b,hp,_⟩:=vg (j:=7) st rfl (aD hn') (by rw [aD hn,hc])
      rw [hp]; rfl
  · exact aU (by unfold KK.busy; rw [d]; rfl) s1
theorem sp_kern_Begin (x:Ptr) (k:KK) (core env:Int) (c:hX) (hn:k.now < 2 ^ 38):Sp Tryz.prog oh [pv x,.int .i64 core,.int .i64 env,.agg c.C.toArray] ay [cG x k] (fun r=>pa_ (r = (KK.begin_ k core env c).1) [cG x (KK.begin_ k core env c).2]):=by
  intro h s0
  refine sim_kern_Kern_Begin _ _ _ _ ?_
  unfold sg
  have no:(KK.is k core = false∨KK.busy k core = true∨env < 0∨env ≥ k.p.s.fEnvs)→KK.begin_ k core env c = (false,k):=fun hh=>if_pos hh
  refine bK (vx x k core) (i:=0) rfl s0 fun r h1 hr s1=>?_
  subst hr
  refine aV (fun d=>?_) (fun d=>?_)
  · have d':KK.is k core = true:=by simpa using d
    refine bK (nM x k core) (i:=0) rfl s1 fun r h2 hr s2=>?_
    subst hr
    refine aV (fun d2=>?_) (fun d2=>?_)
    · have d2':KK.busy k core = false∧¬ env < 0:=by simpa using d2
      obtain ⟨z,rfl,zo,ok,st⟩:=tQ s2
      refine cx (bi k.p.s.fEnvs st (i:=0) rfl rfl rfl ?_)
      refine aV (fun d3=>?_) (fun d3=>?_)
      · rw [no (.inr (.inr (.inr (by simpa using d3))))]
        exact aU rfl s2
      · have d3':¬ env ≥ k.p.s.fEnvs:=by simpa using d3
        have ok2:=kok_begin ok (by omega) core env c
        have e1:KK.begin_ k core env c = (true,{ k with now:=IntKind.i64.wrap (k.now + 1),events:=k.events++[KK.ev0 core env c (IntKind.i64.wrap (k.now + 1))],calls:=k.calls.set core.toNat (some ⟨k.events.length,env,c,false,0⟩) }):=by
          unfold KK.begin_; rw [if_neg]; simp [d',d2'.1]; omega
        rw [e1] at ok2 ⊢
        obtain ⟨n,rfl,hcn⟩:=is_nat d'
        have hn':n < z.cp.length:=by rw [zo.c]; exact hcn
        have hcs:=(cd (j:=6) st rfl).1
        have hel:=ok.evn
        refine bi k.now st (i:=0) rfl rfl rfl ?_
        refine tY (i:=0) st rfl (Nat.le_of_ble_eq_true rfl) fun h3 s3=>?_
        refine bi (IntKind.i64.wrap (k.now + 1)) s3 (i:=0) rfl rfl rfl ?_
        refine bi z.es s3 (i:=0) rfl rfl rfl ?_
        refine kg (τ:=bX) (i:=8) (enc:=aA.C) (val:=fun x=>.agg x.C.toArray) (x:=KK.ev0 n env c (IntKind.i64.wrap (k.now + 1))) pS mQ ev_one (fun _=>rfl) (by omega) rfl rfl s3 rfl (by omega) (by omega) fun v h4 s4=>?_
        refine tY (i:=0) s4 rfl (Nat.le_of_ble_eq_true rfl) fun h5 s5=>?_
        refine bi v s5 (i:=0) rfl rfl rfl ?_
        have hvl:=(cd (j:=8) s5 rfl).1
        refine bi z.cs s5 (i:=0) rfl rfl rfl ?_
        have hw:IntKind.i64.wrap ((v.len:Int) - 1) = k.events.length:=by rw [hvl]; rw [bO] <;> simp <;> omega
        rw [hw]
        refine oG s5 fun b68 h6 s6=>?_
        refine dv s6 (j:=7) rfl (by omega) (by omega) fun q hq=>?_
        refine st_v (j:=7) (i:=n) (k:=0) (some (b68,0):Ptr) gE s6 rfl hq (by simp) (aD hn') (by simp) rfl fun h7 s7=>?_
        have s8:=ba [8] s7 rfl
        have s10:=all_but (aD hn') (aD hcn) s8
        have s12:=call_mk (y:=⟨k.events.length,env,c,false,0⟩) (ba [1,0] s10 rfl)
        have s14:=all_in2 (A:=ii) hcn zo.c s12
        refine aU rfl (pR (z:={ z with es:=v,cp:=z.cp.set n (some (b68,0)) }) ⟨zo.t,by simpa using zo.c⟩ ok2 (ba [1,1,1,1,1,1,1,0,0] s14 rfl))
    · rw [no]
      · exact aU rfl s2
      · simp at d2
        cases hb:KK.busy k core with
        | true=>exact .inr (.inl rfl)
        | false=>exact .inr (.inr (.inl (d2 hb)))
  · rw [no (.inl (by simpa using d))]
    exact aU rfl s1
theorem cleans_drop (k:KK) (ls:List Line) (n:Nat) (h:n < ls.length) (b:Buf):KK.cleans k (ls.drop n) b = if KK.stale k ls[n] = true then KK.cleans k (ls.drop (n + 1)) (Tlb.flush b ls[n].fEnv ls[n].fPage).2 else KK.cleans k (ls.drop (n + 1)) b:=by
  rw [List.drop_eq_getElem_cons h,KK.cleans]
theorem sp_kern_clean (z:KZ) (k:KK) (c:Nat) (hc:c < k.calls.length) (zo:KZ.Ok z k) (ok:KK.Ok k) :
    Sp Tryz.prog kE [pv (some (z.b,0)),.int .i64 c] R_ (lP z k) (fun _=>aC (lP z (KK.clean k c))):=by
  intro h s0
  obtain ⟨l1,l2,l3,l4,l5⟩:=kk_len ok
  have hct:c < k.tlbs.length:=by omega
  have hcp:c < z.tp.length:=by rw [zo.t]; exact hct
  have hts:=(cd (j:=2) s0 rfl).1
  refine sim_kern_Kern_clean _ _ ?_
  unfold sf
  refine cx (bi z.ts s0 (i:=0) rfl rfl rfl ?_)
  refine dv s0 (j:=2) rfl (by omega) (by omega) fun q hq=>?_
  refine dZ (j:=2) (i:=c) (k:=0) z.tp[c] gE s0 rfl hq (by simp) (aD hcp) (by simp) ?_
  have s1:=iW (aD hcp) (aD hct) (ba [3] s0 rfl)
  refine cl_n (sp_tlb_Lines z.tp[c] k.tlbs[c]) (i:=0) rfl s1 fun r h2 s2=>?_
  have s3:=vj (aD hcp) (aD hct) zo.t (ba [1,1] s2 rfl)
  have s4:aC (vL r (Tlb.lines k.tlbs[c])::lP z k) h2:=ba [1,1,1,1,0] s3 rfl
  have hll:(Tlb.lines k.tlbs[c]).length = 8:=by
    obtain ⟨_,_,h8,_⟩:=nH s1
    unfold Tlb.lines; simpa using h8
  have hrl:=(cd (j:=0) s4 rfl).1
  have hbuf:KK.buf k c = k.tlbs[c]:=buf_nat hct
  have same:k.tlbs.set c k.tlbs[c] = k.tlbs:=ir (aD hct)
  refine Lp.intro (fun (i:Int) h=>∃ (n:Nat) (b:Buf),i = n∧n ≤ 8∧KK.cleans k ((Tlb.lines k.tlbs[c]).drop n) b = KK.cleans k (Tlb.lines k.tlbs[c]) k.tlbs[c]∧aC (vL r (Tlb.lines k.tlbs[c])::lP z { k with tlbs:=k.tlbs.set c b }) h) (fun (i:Int) _=>8 - i.toNat) ⟨0,k.tlbs[c],rfl,Nat.zero_le _,rfl,by rw [same]; exact s4⟩ ?_
  rintro i h ⟨n,b,rfl,hn,he,s5⟩
  unfold mP
  refine aV (fun d=>?_) (fun d=>?_)
  · have hlt:n < (Tlb.lines k.tlbs[c]).length:=by rw [hrl] at d; simpa using d
    have hw:IntKind.i64.wrap ((n:Int) + 1) = ((n + 1:Nat):Int):=by rw [bO (by omega) (by omega)]; rfl
    rw [cleans_drop k _ n hlt] at he
    refine dv s5 (j:=0) rfl (by omega) (by omega) fun q2 hq2=>?_
    refine dZ (j:=0) (i:=n) (k:=0) (Tlb.lines k.tlbs[c])[n] line_len s5 rfl hq2 (by simp) (aD hlt) (by simp) ?_
    have hcb:c < (k.tlbs.set c b).length:=by simpa using hct
    have hgb:(k.tlbs.set c b)[c] = b:=by simp
    have j1:∀ (o:Bool × Pte) (h:Hp),((decide ((Tlb.lines k.tlbs[c])[n].fEnv ≥ 0)) && (((!o.1) || (o.2.fFrame != (Tlb.lines k.tlbs[c])[n].fFrame)) || (!(be (Tlb.lines k.tlbs[c])[n].fRights o.2.fRights)))) = KK.stale k (Tlb.lines k.tlbs[c])[n]→aC (vL r (Tlb.lines k.tlbs[c])::lP z { k with tlbs:=k.tlbs.set c b }) h →
        hG c (z.b,0) (fun s' h'=>(∃ (n:Nat) (b:Buf),s' = n∧n ≤ 8∧KK.cleans k ((Tlb.lines k.tlbs[c]).drop n) b = KK.cleans k (Tlb.lines k.tlbs[c]) k.tlbs[c]∧aC (vL r (Tlb.lines k.tlbs[c])::lP z { k with tlbs:=k.tlbs.set c b }) h')∧8 - s'.toNat < 8 - (n:Int).toNat) n (Tlb.lines k.tlbs[c])[n] o h:=by
      intro o h hs s6
      unfold hG
      rw [hs,hw]
      refine aV (fun d2=>?_) (fun d2=>?_)
      · rw [if_pos d2] at he
        refine bi z.ts s6 (i:=1) rfl rfl rfl ?_
        refine dv s6 (j:=3) rfl (by omega) (by omega) fun q3 hq3=>?_
        refine dZ (j:=3) (i:=c) (k:=0) z.tp[c] gE s6 rfl hq3 (by simp) (aD hcp) (by simp) ?_
        have s7:=iW (aD hcp) (aD hcb) (ba [4] s6 rfl)
        rw [hgb] at s7
        refine bK (sp_tlb_Flush z.tp[c] b _ _) (i:=0) rfl s7 fun r h8 hr s8=>?_
        have s9:=wI (aD hcp) hcb (by simpa using zo.t) s8
        rw [List.set_set] at s9
        exact ⟨⟨n + 1,_,rfl,by omega,he,ba [1,1,1,1] s9 rfl⟩,by simp; omega⟩
      · rw [if_neg (by rw [d2]; exact Bool.false_ne_true)] at he
        exact ⟨⟨n + 1,b,rfl,by omega,he,s6⟩,by simp; omega⟩
    refine aV (fun d2=>?_) (fun d2=>?_)
    · have d2':0 ≤ (Tlb.lines k.tlbs[c])[n].fEnv:=by simpa using d2
      refine cJ [1,1,5,5] (sp_kern_seen z.b z.pp (kcl z k) k.p z.cs z.cp k.calls (Tlb.lines k.tlbs[c])[n].fEnv (Tlb.lines k.tlbs[c])[n].fPage rfl rfl zo.c l5) s5 rfl fun r h6 s6=>?_
      obtain ⟨rfl,s7⟩:=bn.1 s6
      refine j1 _ _ ?_ (ba [4,0,0,2,2,2,2,0,0] s7 rfl)
      unfold KK.stale KK.seen
      rfl
    · have d2':¬ 0 ≤ (Tlb.lines k.tlbs[c])[n].fEnv:=by simpa using d2
      refine j1 _ _ ?_ s5
      unfold KK.stale
      rw [d2,Bool.false_and,Bool.false_and]
  · have:n = 8:=by rw [hrl] at d; simp at d; omega
    subst this
    rw [← hll,List.drop_length] at he
    have e1:KK.clean k c = { k with tlbs:=k.tlbs.set c b }:=by
      unfold KK.clean
      rw [hbuf,← he,Int.toNat_natCast]; rfl
    rw [e1]
    exact bU (l:=[vL r (Tlb.lines k.tlbs[c])]) s5
theorem sp_kern_ends (z:KZ) (k:KK) (c:Nat) (x:KC) (a:fT) (l:Line) (hc:c < k.calls.length) (hx:k.calls[c]? = some (some x)) (zo:KZ.Ok z k) (ok:KK.Ok k) :
    Sp Tryz.prog lG [pv (some (z.b,0)),.int .i64 c,.agg a.C.toArray,.agg l.C.toArray] R_ (lP z k) (fun _=>aC [cG (some (z.b,0)) (KK.ends k c x a l)]):=by
  intro h s0
  have hcp:c < z.cp.length:=by rw [zo.c]; exact hc
  have hcs:=(cd (j:=6) s0 rfl).1
  have hes:=(cd (j:=8) s0 rfl).1
  obtain ⟨xb,hp,_⟩:=vg (j:=7) s0 rfl (aD hcp) hx
  have hcpx:z.cp[c]? = some (some (xb,0)):=by rw [aD hcp,hp]
  have hcok:=ok.cs x (List.mem_of_getElem? hx)
  obtain ⟨i,hi⟩:=Int.eq_ofNat_of_zero_le hcok.1
  have hil:i < k.events.length:=by omega
  refine sim_kern_Kern_ends _ _ _ _ ?_
  unfold tw
  refine cx (bi z.es s0 (i:=0) rfl rfl rfl ?_)
  refine bi z.cs s0 (i:=0) rfl rfl rfl ?_
  refine dv s0 (j:=6) rfl (by omega) (by omega) fun q hq=>?_
  refine dZ (j:=6) (i:=c) (k:=0) z.cp[c] gE s0 rfl hq (by simp) (aD hcp) (by simp) ?_
  rw [hp]
  refine cx (ld_c1 (j:=7) x.fat s0 rfl hcpx hx rfl rfl ?_)
  rw [hi]
  refine dv s0 (j:=8) rfl (by omega) (by omega) fun q2 hq2=>?_
  refine bi k.now s0 (i:=0) rfl rfl rfl ?_
  refine bi k.now s0 (i:=0) rfl rfl rfl ?_
  refine st_v (j:=8) (i:=i) (k:=8) { k.events[i] with fEffect:=k.now } mQ s0 rfl hq2 rfl (aD hil) (by simp) rfl fun h1 s1=>?_
  have e1:(k.events.set i { k.events[i] with fEffect:=k.now })[i]? = some { k.events[i] with fEffect:=k.now }:=by simp [hil]
  refine st_v (j:=8) (i:=i) (k:=9) { k.events[i] with fEffect:=k.now,fEnd:=k.now } mQ s1 rfl hq2 rfl e1 (by simp) rfl fun h2 s2=>?_
  simp only [List.set_set] at s2
  have e2:(k.events.set i { k.events[i] with fEffect:=k.now,fEnd:=k.now })[i]? = some { k.events[i] with fEffect:=k.now,fEnd:=k.now }:=by simp [hil]
  refine st_v (j:=8) (i:=i) (k:=10) { k.events[i] with fEffect:=k.now,fEnd:=k.now,fAnswer:=a } mQ s2 rfl hq2 rfl e2 (by simp [ab.C]) rfl fun h3 s3=>?_
  simp only [List.set_set] at s3
  have e3:(k.events.set i { k.events[i] with fEffect:=k.now,fEnd:=k.now,fAnswer:=a })[i]? = some { k.events[i] with fEffect:=k.now,fEnd:=k.now,fAnswer:=a }:=by simp [hil]
  refine st_v (j:=8) (i:=i) (k:=12) (KK.evend k.events[i] k.now a l) mQ s3 rfl hq2 rfl e3 (by simp [al.C]) rfl fun h4 s4=>?_
  simp only [List.set_set] at s4
  refine bi z.cs s4 (i:=0) rfl rfl rfl ?_
  refine dv s4 (j:=6) rfl (by omega) (by omega) fun q5 hq5=>?_
  refine st_v (j:=6) (i:=c) (k:=0) (none:Ptr) gE s4 rfl hq5 (by simp) (aD hcp) (by simp) rfl fun h5 s5=>?_
  have s7:=all_but hcpx hx (ba [7] s5 rfl)
  have s8:=star_cons (A:=ii none none) (fun _=>rfl) s7
  have s9:=all_in2 (A:=ii) hc zo.c s8
  have hge:k.events.getD i (KK.ev0 0 0 ⟨0,0,0,0,0⟩ 0) = k.events[i]:=by simp [hil]
  have e4:KK.ends k c x a l = { k with events:=k.events.set i (KK.evend k.events[i] k.now a l),calls:=k.calls.set c none }:=by
    unfold KK.ends; rw [hi,Int.toNat_natCast,Int.toNat_natCast,hge]
  have ok2:=kok_ends ok c x a l
  rw [e4] at ok2 ⊢
  refine pR (z:={ z with cp:=z.cp.set c none }) ⟨zo.t,by simpa using zo.c⟩ ok2 (ba [1,1,1,1,1,1,1,0,0] s9 rfl)
end Go.Proofs.YtmggcfijlpldpaaGreatDoor
namespace Go.Proofs.YtmggcfijlpldpaaGreatDoor
open Go Mb
theorem five {x:KC}:∀ (i:Nat) (v:Value),(ae.C x.fc)[i]? = some v→x.C[2 + i]? = some v:=by
  intro j v hv
  have:j < 5:=(List.getElem?_eq_some_iff.1 hv).1
  match j,this with
  | 0,_=>exact hv
  | 1,_=>exact hv
  | 2,_=>exact hv
  | 3,_=>exact hv
  | 4,_=>exact hv
theorem sp_kern_access (z:KZ) (k:KK) (c xb:Nat) (x:KC) (hc:c < k.calls.length) (hx:k.calls[c]? = some (some x)) (hp:z.cp[c]? = some (some (xb,0))) (zo:KZ.Ok z k) (ok:KK.Ok k) :
    Sp Tryz.prog mK [pv (some (z.b,0)),.int .i64 c,pv (some (xb,0))] eu (lP z k) (fun r=>pa_ (r = (KK.access k c x).1) (lP z (KK.access k c x).2)):=by
  intro h s0
  obtain ⟨l1,l2,l3,l4,l5⟩:=kk_len ok
  have hct:c < k.tlbs.length:=by omega
  have hcp:c < z.tp.length:=by rw [zo.t]; exact hct
  have hbuf:KK.buf k c = k.tlbs[c]:=buf_nat hct
  refine sim_kern_Kern_access _ _ _ ?_
  unfold rb
  refine cx (cx ?_)
  refine ld_c (j:=7) x.fc s0 rfl hp hx five ?_
  refine bi k.p.s.fEnvs s0 (i:=0) rfl rfl rfl ?_
  refine sZ (iM x.fc _) s0 fun r h1 hr s1=>?_
  subst hr
  refine aV (fun d=>?_) (fun d=>?_)
  · have e1:KK.access k c x = ((⟨Word.check x.fc k.p.s.fEnvs,0⟩,lX),k):=if_pos (by simpa using d)
    rw [e1]; exact aU rfl s1
  · have d':¬ Word.check x.fc k.p.s.fEnvs ≠ 0:=by simpa using d
    refine ld_c1 (j:=7) x.fc.e1 s1 rfl hp hx rfl rfl ?_
    refine lj nK s1 fun r37 h2 s2=>?_
    refine ld_c1 (j:=8) x.fenv s2 rfl hp hx rfl rfl ?_
    refine cJ [1,1,5,5] (sp_kern_seen z.b z.pp (kcl z k) k.p z.cs z.cp k.calls x.fenv (IntKind.i64.wrap x.fc.e1) rfl rfl zo.c l5) s2 rfl fun r h3 s3=>?_
    obtain ⟨hr,s4⟩:=bn.1 s3
    have hr':r = KK.seen k x.fenv (IntKind.i64.wrap x.fc.e1):=hr
    subst hr'
    have s5:aC (cO r37 (List.replicate 8 dV)::lP z k) h3:=ba [4,0,0,2,2,2,2,0,0] s4 rfl
    have j1:∀ h,aC (cO r37 (KK.tabFor k x.fenv (IntKind.i64.wrap x.fc.e1))::lP z k) h→gr c (fun r=>pa_ (r = (KK.access k c x).1) (lP z (KK.access k c x).2)) (xb,0) (z.b,0) x.fc.e1 r37 () h:=by
      intro h s6
      have hts:=(cd (j:=3) s6 rfl).1
      unfold gr
      refine ld_c1 (j:=8) x.fc.e0 s6 rfl hp hx rfl rfl ?_
      refine bi z.ts s6 (i:=1) rfl rfl rfl ?_
      refine dv s6 (j:=3) rfl (by omega) (by omega) fun q hq=>?_
      refine dZ (j:=3) (i:=c) (k:=0) z.tp[c] gE s6 rfl hq (by simp) (aD hcp) (by simp) ?_
      refine ld_c1 (j:=8) x.fenv s6 rfl hp hx rfl rfl ?_
      have s7:=iW (aD hcp) (aD hct) (ba [4] s6 rfl)
      refine cJ [0,1] (sp_user_Walk z.tp[c] r37 k.tlbs[c] (KK.tabFor k x.fenv (IntKind.i64.wrap x.fc.e1)) x.fenv (IntKind.i64.wrap x.fc.e1) (IntKind.i64.wrap x.fc.e0)) s7 rfl fun r h8 s8=>?_
      obtain ⟨hr,s9⟩:=bn.1 s8
      have hr':r = (KK.accWalk k c x).1:=by rw [hr]; unfold KK.accWalk; rw [hbuf]
      have hw:(User.walk k.tlbs[c] (KK.tabFor k x.fenv (IntKind.i64.wrap x.fc.e1)) x.fenv (IntKind.i64.wrap x.fc.e1) (IntKind.i64.wrap x.fc.e0)).2 = (KK.accWalk k c x).2:=by unfold KK.accWalk; rw [hbuf]
      rw [hw] at s9
      subst hr'
      have s10:=wI (aD hcp) hct zo.t (ba [0,1] s9 rfl)
      refine aV (fun d2=>?_) (fun d2=>?_)
      · have e1:KK.access k c x = ((⟨7,0⟩,lX),{ k with tlbs:=k.tlbs.set c (KK.accWalk k c x).2 }):=by
          unfold KK.access; rw [if_neg d',if_pos (by simpa using d2),Int.toNat_natCast]
        rw [e1]
        exact aU rfl (bU (l:=[cO r37 _]) (ba [1,1,1,1,0] s10 rfl))
      · have e1:KK.access k c x = (((PK.touch k.p (KK.accWalk k c x).1.1.fFrame x.fc).1.1,(KK.accWalk k c x).1.1),{ k with tlbs:=k.tlbs.set c (KK.accWalk k c x).2,p:=(PK.touch k.p (KK.accWalk k c x).1.1.fFrame x.fc).2 }):=by
          unfold KK.access; rw [if_neg d',if_neg (by simpa using d2),Int.toNat_natCast]
        rw [e1]
        refine bi z.pp s10 (i:=2) rfl rfl rfl ?_
        refine ld_c (j:=8) x.fc s10 rfl hp hx five ?_
        refine bK (nL z.pp k.p _ x.fc) (i:=3) rfl s10 fun r h11 hr s11=>?_
        subst hr
        have hs:=touch_s k.p (KK.accWalk k c x).1.1.fFrame x.fc
        refine aU rfl ?_
        have s12:=bU (l:=[cO r37 _]) (ba [1,1,1,1,0] s11 rfl)
        have ek:kcl z { k with tlbs:=k.tlbs.set c (KK.accWalk k c x).2,p:=(PK.touch k.p (KK.accWalk k c x).1.1.fFrame x.fc).2 } = kcl z k:=by
          show [pv z.pp,Value.int .i64 (PK.touch k.p (KK.accWalk k c x).1.1.fFrame x.fc).2.s.fEnvs,_,_,_,_,_,_] = _
          rw [hs]
        show aC (blk z.b bZ (kcl z _)::_) _
        rw [ek]
        exact s12
    refine aV (fun d2=>?_) (fun d2=>?_)
    · refine bK (jQ r37 _ (IntKind.i64.wrap x.fc.e1) (KK.seen k x.fenv (IntKind.i64.wrap x.fc.e1)).1) (i:=0) rfl s5 fun r h6 hr s6=>j1 _ ?_
      have e1:KK.tabFor k x.fenv (IntKind.i64.wrap x.fc.e1) = (Table.insert (List.replicate 8 dV) (IntKind.i64.wrap x.fc.e1) (KK.seen k x.fenv (IntKind.i64.wrap x.fc.e1)).1).2:=if_pos d2
      rw [e1]; exact s6
    · have e1:KK.tabFor k x.fenv (IntKind.i64.wrap x.fc.e1) = List.replicate 8 dV:=if_neg (by rw [d2]; exact Bool.false_ne_true)
      exact j1 _ (by rw [e1]; exact s5)
theorem access_calls (k:KK) (c:Int) (x:KC):(KK.access k c x).2.calls = k.calls:=by
  unfold KK.access
  repeat' split
  all_goals rfl
theorem access_tlen (k:KK) (c:Int) (x:KC):(KK.access k c x).2.tlbs.length = k.tlbs.length:=by
  unfold KK.access
  repeat' split
  all_goals simp
theorem kz_tlbs {z:KZ} {k k':KK} (zo:KZ.Ok z k) (h1:k'.tlbs.length = k.tlbs.length) (h2:k'.calls.length = k.calls.length):KZ.Ok z k':=⟨by rw [h1]; exact zo.t,by rw [h2]; exact zo.c⟩
theorem sp_kern_Step (x:Ptr) (k:KK) (c:Int) (hn:k.now < 2 ^ 37):Sp Tryz.prog pA [pv x,.int .i64 c] ay [cG x k] (fun r=>pa_ (r = (KK.step k c).1) [cG x (KK.step k c).2]):=by
  intro h s0
  refine sim_kern_Kern_Step _ _ ?_
  unfold tx
  refine bK (nM x k c) (i:=0) rfl s0 fun r h1 hr s1=>?_
  subst hr
  refine aV (fun d=>?_) (fun d=>?_)
  · have e1:KK.step k c = (false,k):=if_pos (by simpa using d)
    rw [e1]; exact aU rfl s1
  · have d':KK.busy k c = true:=by simpa using d
    obtain ⟨hi,y,hy⟩:=busy_is d'
    have e1:KK.step k c = (true,KK.work (KK.tick k) c y):=by unfold KK.step; rw [if_neg (by simp [d']),hy]
    rw [e1]
    obtain ⟨z,rfl,zo,ok,st⟩:=tQ s1
    have okt:=kok_tick ok (by omega)
    obtain ⟨n,rfl,hnc⟩:=is_nat hi
    obtain ⟨l1,l2,l3,l4,l5⟩:=kk_len ok
    have hnp:n < z.cp.length:=by rw [zo.c]; exact hnc
    have hcs:=(cd (j:=6) st rfl).1
    have hxn:k.calls[n]? = some (some y):=by rw [aD hnc,← call_nat hnc,hy]
    have hep:=ok.epn
    have hwn:=wrapN ok.n0 (show k.now < 2 ^ 40 by omega)
    refine cx (bi k.now st (i:=0) rfl rfl rfl ?_)
    refine tY (i:=0) st rfl (Nat.le_of_ble_eq_true rfl) fun h2 s2=>?_
    have s3:aC (lP z (KK.tick k)) h2:=s2
    have zot:KZ.Ok z (KK.tick k):=⟨zo.t,zo.c⟩
    have hxt:(KK.tick k).calls[n]? = some (some y):=hxn
    have hyt:KK.call (KK.tick k) n = some y:=hy
    have hit:KK.is (KK.tick k) n = true:=hi
    have hept:((KK.tick k).epochs.1.length:Int) + 1 ≤ (KK.tick k).now:=by show _ ≤ IntKind.i64.wrap (k.now + 1); rw [hwn]; simp only [KK.tick]; omega
    have hnt:(KK.tick k).now ≤ 2 ^ 37:=by show IntKind.i64.wrap (k.now + 1) ≤ _; rw [hwn]; omega
    have okw:=kok_work okt hept hyt hit
    have hnct:n < (KK.tick k).calls.length:=hnc
    generalize KK.tick k = kt at *
    obtain ⟨xb,hp,_⟩:=vg (j:=7) s3 rfl (aD hnp) hxt
    have hpx:z.cp[n]? = some (some (xb,0)):=by rw [aD hnp,hp]
    refine bi z.cs s3 (i:=0) rfl rfl rfl ?_
    refine dv s3 (j:=6) rfl (by omega) (by omega) fun q hq=>?_
    refine dZ (j:=6) (i:=n) (k:=0) z.cp[n] gE s3 rfl hq (by simp) (aD hnp) (by simp) ?_
    rw [hp]
    refine cx (ld_c (j:=7) y.fc s3 rfl hpx hxt five ?_)
    refine aV (fun d2=>?_) (fun d2=>?_)
    · have ew:KK.work kt n y = KK.ends (KK.access kt n y).2 n y (KK.access kt n y).1.1 (KK.access kt n y).1.2:=if_pos d2
      rw [ew]
      have oka:=kok_access okt n y
      have hca:(KK.access kt n y).2.calls = kt.calls:=access_calls _ _ _
      have hta:(KK.access kt n y).2.tlbs.length = kt.tlbs.length:=access_tlen _ _ _
      refine cJ [0,0,0,0,0,0,0,0,0] (sp_kern_access z kt n xb y hnct hxt hpx zot okt) s3 rfl fun r h4 s4=>?_
      obtain ⟨hr,s5⟩:=bn.1 s4
      subst hr
      refine cJ [0,0,0,0,0,0,0,0,0] (sp_kern_ends z (KK.access kt n y).2 n y (KK.access kt n y).1.1 (KK.access kt n y).1.2 (by rw [hca]; exact hnct) (by rw [hca]; exact hxt) (kz_tlbs zot hta (by rw [hca])) oka) s5 rfl fun r h6 s6=>?_
      exact aU rfl (dw s6)
    · have d2':¬ dk (aB y.fc).1 = true:=by rw [d2]; exact Bool.false_ne_true
      have j2:∀ b:Bool,(y.ftold = false∧KK.takes kt.p y = true) = False→b = (y.ftold && !(Epochs.done kt.epochs y.fepoch))→∀ h,aC (lP z kt) h→iG n (fun r=>pa_ (r = true) [cG (some (z.b,0)) (KK.work kt n y)]) (z.b,0) (xb,0) b h:=by
        intro b hno hb h s4
        have ew:KK.work kt n y = (if y.ftold = true∧Epochs.done kt.epochs y.fepoch = false then kt else if (PK.do_ kt.p y.fenv y.fc).1.2 = true then KK.ends { kt with p:=(PK.do_ kt.p y.fenv y.fc).2 } n y (PK.do_ kt.p y.fenv y.fc).1.1 lX else { kt with p:=(PK.do_ kt.p y.fenv y.fc).2 }):=by
          unfold KK.work
          rw [if_neg d2',if_neg (by rw [hno]; exact not_false)]
        rw [ew] at okw ⊢
        unfold iG
        refine aV (fun d4=>?_) (fun d4=>?_)
        · have d4':y.ftold = true∧Epochs.done kt.epochs y.fepoch = false:=by rw [hb] at d4; simpa using d4
          rw [if_pos d4']
          exact aU rfl (pR zot okt s4)
        · have d4':¬ (y.ftold = true∧Epochs.done kt.epochs y.fepoch = false):=by rw [hb] at d4; simpa using d4
          rw [if_neg d4'] at okw ⊢
          refine bi z.pp s4 (i:=0) rfl rfl rfl ?_
          refine ld_c1 (j:=7) y.fenv s4 rfl hpx hxt rfl rfl ?_
          refine ld_c (j:=7) y.fc s4 rfl hpx hxt five ?_
          refine bK (ju z.pp kt.p y.fenv y.fc) (i:=1) rfl s4 fun r h5 hr s5=>?_
          subst hr
          have hs:=do_s kt.p y.fenv y.fc
          have s6:aC (lP z { kt with p:=(PK.do_ kt.p y.fenv y.fc).2 }) h5:=by
            show aC (blk z.b bZ [pv z.pp,Value.int .i64 (PK.do_ kt.p y.fenv y.fc).2.s.fEnvs,_,_,_,_,_,_]::_) _
            rw [hs]; exact s5
          have okp:=kok_p okt (ok_do okt.p y.fenv y.fc) hs
          refine aV (fun d5=>?_) (fun d5=>?_)
          · rw [if_pos d5]
            refine cJ [0,0,0,0,0,0,0,0,0] (sp_kern_ends z { kt with p:=(PK.do_ kt.p y.fenv y.fc).2 } n y (PK.do_ kt.p y.fenv y.fc).1.1 lX hnct hxt ⟨zot.t,zot.c⟩ okp) s6 rfl fun r h7 s7=>?_
            exact aU rfl (dw s7)
          · rw [if_neg (by rw [d5]; exact Bool.false_ne_true)]
            exact aU rfl (pR (k:={ kt with p:=_ }) ⟨zot.t,zot.c⟩ okp s6)
      refine ld_c1 (j:=7) y.ftold s3 rfl hpx hxt rfl rfl ?_
      refine aV (fun d3=>?_) (fun d3=>?_)
      · have d3':y.ftold = false:=by simpa using d3
        obtain ⟨xb',hp',s4⟩:=call_out hpx hxt (ba [7] s3 rfl)
        cases hp'
        refine cJ [2,0,1] (sp_kern_takes z.b xb z.pp (kcl z kt) kt.p y rfl rfl) s4 rfl fun r h5 s5=>?_
        obtain ⟨hr,s6⟩:=bn.1 s5
        subst hr
        unfold iH
        refine aV (fun d4=>?_) (fun d4=>?_)
        · have ew:KK.work kt n y = KK.send (KK.clean (KK.tell kt n y) n) n y:=by unfold KK.work; rw [if_neg d2',if_pos ⟨d3',d4⟩]
          rw [ew] at okw ⊢
          refine tY (i:=1) s6 rfl (Nat.le_of_ble_eq_true rfl) fun h7 s7=>?_
          have s8:=call_in (y:={ y with ftold:=true }) hpx hnct zot.c (ba [1,2] s7 rfl)
          have s9:aC (lP z (KK.tell kt n y)) h7:=ba [1,1,1,1,1,1,1,0,0] s8 rfl
          have okl:KK.Ok (KK.tell kt n y):=kok_call okt n hyt (y:={ y with ftold:=true }) rfl rfl
          have hll:n < (KK.tell kt n y).calls.length:=by simpa [KK.tell] using hnct
          have zol:KZ.Ok z (KK.tell kt n y):=⟨zot.t,by simpa [KK.tell] using zot.c⟩
          refine cJ [0,0,0,0,0,0,0,0,0] (sp_kern_clean z (KK.tell kt n y) n hll zol okl) s9 rfl fun r h10 s10=>?_
          have s11:=dw s10
          have hcc:(KK.clean (KK.tell kt n y) n).calls[n]? = some (some { y with ftold:=true }):=by simp [KK.clean,KK.tell,hnct]
          have okc:=kok_clean okl n
          have zoc:KZ.Ok z (KK.clean (KK.tell kt n y) n):=⟨by simpa [KK.clean] using zol.t,zol.c⟩
          have hepc:((KK.clean (KK.tell kt n y) n).epochs.1.length:Int) + 1 ≤ kt.now:=hept
          have hbx:=okc.bx
          have htl:(KK.clean (KK.tell kt n y) n).calls = kt.calls.set n (some { y with ftold:=true }):=rfl
          have hnow:(KK.clean (KK.tell kt n y) n).now = kt.now:=rfl
          generalize KK.clean (KK.tell kt n y) n = kc at *
          have hncc:n < kc.calls.length:=by rw [htl]; simpa using hnct
          refine bi z.pe s11 (i:=0) rfl rfl rfl ?_
          refine bK (sp_epoch_Begin z.pe kc.epochs n (by omega)) (i:=5) rfl s11 fun r h12 hr s12=>?_
          subst hr
          obtain ⟨xb',hp',s13⟩:=call_out hpx hcc (ba [7] s12 rfl)
          cases hp'
          refine tY (i:=0) s13 rfl (Nat.le_of_ble_eq_true rfl) fun h14 s14=>?_
          have s15:=call_in (y:={ y with ftold:=true,fepoch:=(Epochs.begin_ kc.epochs n).1.1 }) hpx hncc zoc.c s14
          refine bi z.pm s15 (i:=1) rfl rfl rfl ?_
          have hxe:(kc.calls.set n (some { y with ftold:=true,fepoch:=(Epochs.begin_ kc.epochs n).1.1 }))[n]? = some (some { y with ftold:=true,fepoch:=(Epochs.begin_ kc.epochs n).1.1 }):=by simp [hncc]
          refine ld_c1 (j:=0) (Epochs.begin_ kc.epochs n).1.1 s15 rfl hpx hxe rfl rfl ?_
          have he:Epochs.is kc.epochs n = true:=by
            unfold Epochs.is
            have:=okc.el
            have:=okc.cl
            exact decide_eq_true (by omega)
          have eb:(Epochs.begin_ kc.epochs n).1.1 = (kc.epochs.1.length:Int) + 1:=by unfold Epochs.begin_; rw [if_pos he]
          refine bK (sp_mail_All z.pm kc.boxes n (Epochs.begin_ kc.epochs n).1.1 ?_) (i:=5) rfl s15 fun r h16 hr s16=>?_
          · intro l hl
            rw [eb]
            exact box_fit (hbx l hl) (by omega)
          · refine aU rfl (pR (k:=KK.send kc n y) ⟨zoc.t,by simpa [KK.send] using zoc.c⟩ okw (ba [1,1,1,1,1,1,1,0,0] s16 rfl))
        · have hno:(y.ftold = false∧KK.takes kt.p y = true) = False:=by simp [d4]
          have s8:=call_in (y:=y) hpx hnct zot.c (ba [1,2] s6 rfl)
          rw [ir hxt] at s8
          have s9:aC (lP z kt) h5:=ba [1,1,1,1,1,1,1,0,0] s8 rfl
          refine ld_c1 (j:=7) y.ftold s9 rfl hpx hxt rfl rfl ?_
          refine df d3' ?_
          exact j2 false hno (by rw [d3']; rfl) _ s9
      · have d3':y.ftold = true:=by simpa using d3
        unfold iH
        refine df rfl ?_
        refine ld_c1 (j:=7) y.ftold s3 rfl hpx hxt rfl rfl ?_
        refine dL d3' ?_
        refine bi z.pe s3 (i:=0) rfl rfl rfl ?_
        refine ld_c1 (j:=7) y.fepoch s3 rfl hpx hxt rfl rfl ?_
        refine bK (sp_epoch_Done z.pe kt.epochs y.fepoch) (i:=5) rfl s3 fun r h4 hr s4=>?_
        subst hr
        exact j2 _ (by simp [d3']) (by rw [d3']; rfl) _ s4
theorem sp_kern_Post (x:Ptr) (k:KK) (c:Int) (hn:k.now < 2 ^ 37):Sp Tryz.prog pB [pv x,.int .i64 c] ay [cG x k] (fun r=>pa_ (r = (KK.post k c).1) [cG x (KK.post k c).2]):=by
  intro h s0
  refine sim_kern_Kern_Post _ _ ?_
  unfold tz
  refine bK (vx x k c) (i:=0) rfl s0 fun r h1 hr s1=>?_
  subst hr
  refine aV (fun d=>?_) (fun d=>?_)
  · have e1:KK.post k c = (false,k):=if_pos (by simpa using d)
    rw [e1]; exact aU rfl s1
  · have d':KK.is k c = true:=by simpa using d
    obtain ⟨z,rfl,zo,ok,st⟩:=tQ s1
    have okp:=kok_post ok (by omega) c
    obtain ⟨n,rfl,hnc⟩:=is_nat d'
    refine cx (bi z.pm st (i:=0) rfl rfl rfl ?_)
    refine bK (sp_mail_Take z.pm k.boxes n) (i:=4) rfl st fun r h2 hr s2=>?_
    subst hr
    refine aV (fun d2=>?_) (fun d2=>?_)
    · have d2':(Mail.take k.boxes n).1.2 = false:=by simpa using d2
      have e1:KK.post k n = (false,k):=by unfold KK.post; rw [if_neg (by simp [d']),if_pos d2']
      have e2:(Mail.take k.boxes n).2 = k.boxes:=by
        unfold Mail.take at d2' ⊢; split
        · rfl
        · rename_i hh; rw [if_neg hh] at d2'; cases d2'
      rw [e1]
      rw [e2] at s2
      exact aU rfl (pR zo ok s2)
    · have e1:KK.post k n = (true,{ KK.clean { KK.tick k with boxes:=(Mail.take k.boxes n).2 } n with epochs:=(Epochs.ack k.epochs n (Mail.take k.boxes n).1.1).2 }):=by
        unfold KK.post; rw [if_neg (by simp [d']),if_neg (by simpa using d2)]
      rw [e1] at okp ⊢
      refine bi k.now s2 (i:=0) rfl rfl rfl ?_
      refine tY (i:=0) s2 rfl (Nat.le_of_ble_eq_true rfl) fun h3 s3=>?_
      have s4:aC (lP z { KK.tick k with boxes:=(Mail.take k.boxes n).2 }) h3:=s3
      have okt:=kok_tick ok (by omega)
      have hbl:(Mail.take k.boxes n).2.length = k.boxes.length:=by unfold Mail.take; split <;> simp
      have hb:∀ l ∈ (Mail.take k.boxes n).2,lQ k.epochs.1.length l:=by
        unfold Mail.take; split
        · exact ok.bx
        · exact boxes_set ok.bx _ (box_drop (box_of ok.bx n))
      have ok2:KK.Ok { KK.tick k with boxes:=(Mail.take k.boxes n).2 }:=⟨okt.p,okt.tl,by simp only [hbl]; exact ok.bl,okt.el,okt.cl,okt.cs,okt.n0,okt.evn,okt.epn,hb⟩
      refine cJ [0,0,0,0,0,0,0,0,0] (sp_kern_clean z { KK.tick k with boxes:=(Mail.take k.boxes n).2 } n hnc ⟨zo.t,zo.c⟩ ok2) s4 rfl fun r h5 s5=>?_
      have s6:=dw s5
      refine bi z.pe s6 (i:=0) rfl rfl rfl ?_
      refine bK (sp_epoch_Ack z.pe k.epochs n _) (i:=5) rfl s6 fun r h7 hr s7=>?_
      refine aU rfl (pR (z:=z) ⟨?_,zo.c⟩ okp s7)
      simpa [KK.clean,KK.tick] using zo.t
theorem sp_kern_Mail (x:Ptr) (k:KK) (c:Int):Sp Tryz.prog pC [pv x,.int .i64 c] dW [cG x k] (fun r=>pa_ (r = KK.mail k c) [cG x k]):=by
  intro h s0
  refine sim_kern_Kern_Mail _ _ ?_
  unfold tA
  refine bK (vx x k c) (i:=0) rfl s0 fun r h1 hr s1=>?_
  subst hr
  refine aV (fun d=>?_) (fun d=>?_)
  · exact aU (by unfold KK.mail; rw [if_neg (by simpa using d)]) s1
  · obtain ⟨z,rfl,zo,ok,st⟩:=tQ s1
    refine cx (bi z.pm st (i:=0) rfl rfl rfl ?_)
    refine bK (sp_mail_Waits z.pm k.boxes c) (i:=4) rfl st fun r h2 hr s2=>?_
    exact aU (by unfold KK.mail; rw [if_pos (by simpa using d),hr]) (pR zo ok s2)
theorem sp_slices_CloneE (s:Sl) (xs:List bX) (hb:xs.length < 2 ^ 38):Sp Tryz.prog eI [sv s] eG [vE s xs] (fun r=>aC [vE r xs,vE s xs]):=by
  intro h s0
  refine lR _ ?_
  unfold gJ
  refine aV (fun k=>?_) (fun k=>?_)
  · have hn:xs = []:=by
      obtain ⟨_,⟨e1,e2,e3⟩,_⟩:=dP (i:=0) rfl s0
      rcases e3 with e3 | ⟨b,pre,rest,U,fr,h4,_⟩
      · exact List.eq_nil_of_length_eq_zero (by omega)
      · rw [h4] at k; cases k
    subst hn
    exact fu s0
  · refine eF (τ:=bX) [] (val:=fun x=>.agg x.C.toArray) (enc:=aA.C) pS mQ (fun _=>rfl) s0 rfl rfl (by simp) fun y h' s1=>?_
    refine sV (τ:=bX) (i:=0) (j:=1) (enc:=aA.C) (xs:=[]) (ys:=xs) pS pS.sl mQ ev_one s1 rfl rfl (by omega) (by simp; omega) (by simp; omega) fun v h2 s2=>?_
    exact s2
theorem sp_kern_Events (x:Ptr) (k:KK) (hb:k.now < 2 ^ 38):Sp Tryz.prog gX [pv x] eG [cG x k] (fun r=>aC [vE r k.events,cG x k]):=by
  intro h s0
  obtain ⟨z,rfl,zo,ok,st⟩:=tQ s0
  have:=ok.evn
  refine sim_kern_Kern_Events _ ?_
  unfold rc
  refine df rfl (cx (bi z.es st (i:=0) rfl rfl rfl ?_))
  refine cl_n (sp_slices_CloneE z.es k.events (by omega)) (i:=8) rfl st fun r h1 s1=>?_
  exact star_tail s1 fun h2 s2=>pR zo ok s2
end Go.Proofs.YtmggcfijlpldpaaGreatDoor
namespace Go.Proofs.YtmggcfijlpldpaaGreatDoor
open Go Mb
set_option linter.unusedVariables false
def eN (a0:Ptr) (Rec7:(Bool × Int)→Hp→Prop) (s6:Bool × Int) (s11:Unit):Hp→Prop:=cl Tryz.prog fA [(pv a0),(.int .i64 s6.2)] ay fun r37=>cl Tryz.prog fA [(pv a0),(.int .i64 s6.2)] ay fun r43=>br r43 ( cl Tryz.prog pA [(pv a0),(.int .i64 s6.2)] ay fun r46=>Rec7 ((r37 || s6.1),(IntKind.i64.wrap (s6.2 + 1)))) ( Rec7 ((r37 || s6.1),(IntKind.i64.wrap (s6.2 + 1))))
def fY (a0:Ptr) (Rec7:(Bool × Int)→Hp→Prop) (s6:Bool × Int) (Rec20:Int→Hp→Prop) (s19:Int):Hp→Prop:=br (decide (s19 < 5000)) ( cl Tryz.prog pC [(pv a0),(.int .i64 s6.2)] dW fun r27=>br (decide (r27 > 0)) ( cl Tryz.prog pB [(pv a0),(.int .i64 s6.2)] ay fun r34=>Rec20 (IntKind.i64.wrap (s19 + 1))) ( eN a0 Rec7 s6 ())) ( eN a0 Rec7 s6 ())
def fZ (a0:Ptr) (a1:Int) (K:Bool→Hp→Prop) (Rec2:Int→Hp→Prop) (s1:Int) (Rec7:(Bool × Int)→Hp→Prop) (s6:Bool × Int):Hp→Prop:=br (decide (s6.2 < a1)) ( Lp (fY a0 Rec7 s6) 0) ( br (!s6.1) ( K true) ( Rec2 (IntKind.i64.wrap (s1 + 1))))
def fX (a0:Ptr) (a1:Int) (K:Bool→Hp→Prop) (Rec34:Int→Hp→Prop) (s33:Int):Hp→Prop:=br (decide (s33 < a1)) ( cl Tryz.prog fA [(pv a0),(.int .i64 s33)] ay fun r56=>br r56 ( K false) ( Rec34 (IntKind.i64.wrap (s33 + 1)))) ( K true)
def jl (a0:Ptr) (a1:Int) (a2:Int) (K:Bool→Hp→Prop) (Rec2:Int→Hp→Prop) (s1:Int):Hp→Prop:=br (decide (s1 < a2)) ( Lp (fZ a0 a1 K Rec2 s1) (false,0)) ( Lp (fX a0 a1 K) 0)
def ng (a0:Ptr) (a1:Int) (a2:Int) (K:Bool→Hp→Prop):Hp→Prop:=Lp (jl a0 a1 a2 K) 0
theorem uf (a0:Ptr) (a1:Int) (a2:Int) {K:Bool→Hp→Prop} {h:Hp} (H:ng a0 a1 a2 K h):Ct Tryz.prog gC #[(pv a0),(.int .i64 a1),(.int .i64 a2)] h fun v h'=>∃ r,v = ay r∧K r h':=au [(pv a0),(.int .i64 a1),(.int .i64 a2)] Tryz.func24 c c c fun _=>M<|O c<|aj<|M<|O c<|av<|bA (step:=jl a0 a1 a2 K) (fun s1=>[(0,(pv a0)),(1,(.int .i64 a1)),(2,(.int .i64 a2)),(7,(.int .i64 s1))]) (fun s1=>[]) H (.cons c<|.cons c<|.cons c<|.cons c<|.nil _) .slnil fun Rec2 s1 _ H3=>aj<|M<|J c<|J c<|p (cm c c)<|ac<|ar c H3 (fun k4 H5=>am<|aj<|av<|M<|O c<|aj<|M<|O c<|av<|bA (step:=fZ a0 a1 K Rec2 s1) (fun s6=>[(0,(pv a0)),(1,(.int .i64 a1)),(2,(.int .i64 a2)),(7,(.int .i64 s1)),(8,(.bool s6.1)),(9,(.int .i64 s6.2))]) (fun s6=>[]) H5 (.cons c<|.cons c<|.cons c<|.cons c<|.cons c<|.cons c<|.nil _) .slnil fun Rec7 s6 _ H8=>aj<|M<|J c<|J c<|p (cm c c)<|ac<|ar c H8 (fun k9 H10=>am<|aj<|av<|ee (eN a0 Rec7 s6) (fun s11=>[(0,(pv a0)),(1,(.int .i64 a1)),(2,(.int .i64 a2)),(7,(.int .i64 s1)),(8,(.bool s6.1)),(9,(.int .i64 s6.2))]) (fun s11=>[]) (M<|O c<|av<|bA (step:=fY a0 Rec7 s6) (fun s19=>[(0,(pv a0)),(1,(.int .i64 a1)),(2,(.int .i64 a2)),(7,(.int .i64 s1)),(8,(.bool s6.1)),(9,(.int .i64 s6.2)),(10,(.int .i64 s19))]) (fun s19=>[]) H10 (.cons c<|.cons c<|.cons c<|.cons c<|.cons c<|.cons c<|.cons c<|.nil _) .slnil fun Rec20 s19 _ H21=>aj<|M<|J c<|p (cm c c)<|J c<|V c c (aw _) (fun g22=>wv<|ag c)<|V c c (aw _) (fun g23=>wv<|ag c)<|bP H21 (fun k25 H26=>F (D k25)<|fV H26 en_63 (aP (az c k25)<|aP (az c k25) bL) c fun r27 _ H27=>F (D k25)<|R (pY c c)<|p (aR c k25 c)<|ac<|ar c H27 (fun k28 H29=>am<|aj<|av<|ap<|J c<|J c<|aa<|Z H29 en_64 fun r34 _ H30=>ac<|ap<|J c<|p (bp c c)<|O c<|cF (IntKind.i64.wrap (s19 + 1)) H30 (.cons c<|.cons c<|.cons c<|.cons c<|.cons c<|.cons c<|.cons c<|.nil _) .slnil) fun k28 H29=>bh<|cC () H29 (.cons c<|.cons c<|.cons c<|.cons c<|.cons c<|.cons c<|.nil _) .slnil) fun k25 H26=>W (aQ k25)<|W (aQ k25)<|p (ao c k25 c)<|ac<|ev_no c c<|bh<|cC () H26 (.cons c<|.cons c<|.cons c<|.cons c<|.cons c<|.cons c<|.nil _) .slnil) fun s11 _ H12=>M<|J c<|J c<|aa<|Z H12 en_26 fun r37 _ H13=>J c<|V c c (aG _) (fun g14=>wv<|ag c)<|p (cZ c c)<|O c<|M<|J c<|J c<|aa<|Z H13 en_26 fun r43 _ H15=>ac<|ar c H15 (fun k16 H17=>ap<|J c<|J c<|aa<|Z H17 en_23 fun r46 _ H18=>ac<|ap<|J c<|p (bp c c)<|O c<|cF ((r37 || s6.1),(IntKind.i64.wrap (s6.2 + 1))) H18 (.cons c<|.cons c<|.cons c<|.cons c<|.cons c<|.cons c<|.nil _) .slnil) fun k16 H17=>am<|ap<|J c<|p (bp c c)<|O c<|cF ((r37 || s6.1),(IntKind.i64.wrap (s6.2 + 1))) H17 (.cons c<|.cons c<|.cons c<|.cons c<|.cons c<|.cons c<|.nil _) .slnil) fun k9 H10=>bh<|M<|J c<|p (cf c)<|ac<|ar c H10 (fun k31 H32=>M<|O c<|ah<|Y ⟨true,c,H32⟩) fun k31 H32=>am<|ap<|J c<|p (bp c c)<|O c<|cF (IntKind.i64.wrap (s1 + 1)) H32 (.cons c<|.cons c<|.cons c<|.cons c<|.nil _) .slnil) fun k4 H5=>bh<|aj<|M<|O c<|av<|bA (step:=fX a0 a1 K) (fun s33=>[(0,(pv a0)),(1,(.int .i64 a1)),(11,(.int .i64 s33))]) (fun s33=>[]) H5 (.cons c<|.cons c<|.cons c<|.nil _) .slnil fun Rec34 s33 _ H35=>aj<|M<|J c<|J c<|p (cm c c)<|ac<|ar c H35 (fun k36 H37=>am<|aj<|av<|M<|J c<|J c<|aa<|Z H37 en_26 fun r56 _ H38=>ac<|ar c H38 (fun k39 H40=>M<|O c<|ah<|Y ⟨false,c,H40⟩) fun k39 H40=>am<|ap<|J c<|p (bp c c)<|O c<|cF (IntKind.i64.wrap (s33 + 1)) H40 (.cons c<|.cons c<|.cons c<|.nil _) .slnil) fun k36 H37=>bh<|M<|O c<|ah<|Y ⟨true,c,H37⟩
def fM (a1:Int) (K:(ab × Bool)→Hp→Prop) (r24:Sl) (Rec9:(Int × ab)→Hp→Prop) (s8:Int × ab):Hp→Prop:=br (decide (s8.1 ≥ 0)) ( ix r24 s8.1 fun q34=>ld (q34.1,q34.2 + Int.toNat s8.1 * 16 + 0) (cI .i64) fun x36=>br (x36 == a1) ( both ( ld (q34.1,q34.2 + Int.toNat s8.1 * 16 + 10) ab.C fun x43=>ld (q34.1,q34.2 + Int.toNat s8.1 * 16 + 9) (cI .i64) fun x48=>K (x43,(decide (x48 > 0)))) ( ld (q34.1,q34.2 + Int.toNat s8.1 * 16 + 9) (cI .i64) fun x48=>ld (q34.1,q34.2 + Int.toNat s8.1 * 16 + 10) ab.C fun x43=>K (x43,(decide (x48 > 0))))) ( Rec9 ((IntKind.i64.wrap (s8.1 - 1)),s8.2))) ( K ((⟨0,0⟩:ab),false))
def qk (a0:Ptr) (a1:Int) (a2:Int) (a3:ae) (K:(ab × Bool)→Hp→Prop):Hp→Prop:=cl Tryz.prog oh [(pv a0),(.int .i64 a1),(.int .i64 a2),(.agg (ae.C a3).toArray)] ay fun r16=>br (!r16) ( K ((⟨0,0⟩:ab),false)) ( cl Tryz.prog gC [(pv a0),(.int .i64 8),(.int .i64 1000)] ay fun r20=>br (!r20) ( K ((⟨0,0⟩:ab),false)) ( cl Tryz.prog gX [(pv a0)] eG fun r24=>Lp (fM a1 K r24) ((IntKind.i64.wrap ((r24.len:Int) - 1)),(⟨0,0⟩:ab))))
theorem sim_messuagelaw16_Run (a0:Ptr) (a1:Int) (a2:Int) (a3:ae) {K:(ab × Bool)→Hp→Prop} {h:Hp} (H:qk a0 a1 a2 a3 K h):Ct Tryz.prog ci #[(pv a0),(.int .i64 a1),(.int .i64 a2),(.agg (ae.C a3).toArray)] h fun v h'=>∃ r,v = aX r∧K r h':=au [(pv a0),(.int .i64 a1),(.int .i64 a2),(.agg (ae.C a3).toArray)] Tryz.func16 c c c fun _=>M<|aa<|cD (l:=ae.C a3) c c c fun b7=>aa<|aK (l:=ab.C (⟨0,0⟩:ab)) cE c c fun b8=>O c<|aj<|M<|J c<|J c<|J c<|bg (bw (k:=1) eQ c c c c) c<|aa<|Z H en_22 fun r16 _ H1=>p (cf c)<|ac<|ar c H1 (fun k2 H3=>M<|p (aW (vs:=[]) c sS)<|aa<|aN (k:=0) (vs:=ab.C (⟨0,0⟩:ab)) bF c c c c c c c<|O c<|ah<|bt (bJ c (bz (k:=0) c co c c)<|bT c) ⟨((⟨0,0⟩:ab),false),c,H3⟩) fun k2 H3=>am<|aj<|M<|J c<|aa<|Z H3 en_24 fun r20 _ H4=>p (cf c)<|ac<|ar c H4 (fun k5 H6=>M<|p (aW (vs:=[]) c sS)<|aa<|aN (k:=0) (vs:=ab.C (⟨0,0⟩:ab)) bF c c c c c c c<|O c<|ah<|bt (bJ c (bz (k:=0) c co c c)<|bT c) ⟨((⟨0,0⟩:ab),false),c,H6⟩) fun k5 H6=>am<|M<|J c<|aa<|Z H6 en_20 fun r24 _ H7=>O c<|aj<|M<|J c<|p (dz c Tryz.underlying43 c)<|p (us c c)<|O c<|av<|bA (step:=fM a1 K r24) (fun s8=>[(1,(.int .i64 a1)),(8,(.pointer (some ⟨b8,0,none⟩))),(10,(sv r24)),(11,(.int .i64 s8.1))]) (fun s8=>[bx b8 30 (ab.C s8.2)]) H7 (.cons c<|.cons c<|.cons c<|.cons c<|.nil _) (.cons_cons _<|.cons _ .slnil) fun Rec9 s8 _ H10=>aj<|M<|J c<|p (jr c c)<|ac<|ar c H10 (fun k11 H12=>am<|aj<|av<|M<|J c<|J c<|ce H12 fun q34 e13 h14 H15=>p (bo rY (aL c<|aZ e13) c h14)<|p (ad sK c)<|aa<|aT H15 aY c (fun _=>c) c fun x36 H16=>J c<|p (bM c c)<|ac<|ar c H16 (fun k17 H18=>aj<|bj (n:=13) [] ch c (.cons _ .slnil)<|U 0 c (ag c)<|U 1 c (ag c)<|U 2 c (bo rY (aL c<|aZ e13) c h14)<|U 3 c (ad jV c)<|U 5 c (ag c)<|U 6 c (ag c)<|U 7 c (bo rY (aL c<|aZ e13) c h14)<|U 8 c (ad qt c)<|jn H18 fun H19_1 H19_2=>jo (i:=4) (j:=9) (by kernel_rfl) (cu c c<|gx H19_1 co c (fun _=>c) c fun x43 H20=>⟨.cons _ .slnil,jo (i:=9) (j:=11) (by kernel_rfl) (cu c c<|aT H20 aY c (fun _=>c) c fun x48 H22=>⟨.cons _ .slnil,U 10 c (pY c c)<|G 11 c<|aN (k:=0) (vs:=ab.C x43) bF c c c c c c c ⟨.cons _ .slnil,U 12 c (aq c)<|aS (by kernel_rfl)<|ah<|bt (bJ c (bz (k:=0) c co c c)<|bT c) ⟨(x43,(decide (x48 > 0))),c,H22⟩⟩⟩)<|cu c c<|aN (k:=0) (vs:=ab.C x43) bF c c c c c c c ⟨.cons _ .slnil,bD (i:=9) (fun _ _ _ _ hh=>hh) H20 c (by kernel_rfl) aY c (fun _=>c) c fun x48 H22=>U 10 c (pY c c)<|U 12 c (aq c)<|aS (by kernel_rfl)<|ah<|bt (bJ c (bz (k:=0) c co c c)<|bT c) ⟨(x43,(decide (x48 > 0))),c,H22⟩⟩⟩)<|cu c c<|aT H19_2 aY c (fun _=>c) c fun x48 H20=>⟨.cons _ .slnil,U 10 c (pY c c)<|wy (i:=4) (fun _ _ _ _ hh=>hh) H20 c (by kernel_rfl) co c (fun _=>c) c fun x43 H21=>G 11 c<|aN (k:=0) (vs:=ab.C x43) bF c c c c c c c ⟨.cons _ .slnil,U 12 c (aq c)<|aS (by kernel_rfl)<|ah<|bt (bJ c (bz (k:=0) c co c c)<|bT c) ⟨(x43,(decide (x48 > 0))),c,H21⟩⟩⟩) fun k17 H18=>am<|ap<|J c<|p (us c c)<|O c<|cF ((IntKind.i64.wrap (s8.1 - 1)),s8.2) H18 (.cons c<|.cons c<|.cons c<|.cons c<|.nil _)<|.cons_cons _ .slnil) fun k11 H12=>bh<|M<|p (aW (vs:=[]) c sS)<|aa<|aN (k:=0) (vs:=ab.C (⟨0,0⟩:ab)) bF c c c c c c c<|O c<|ah<|bt (bJ c (bz (k:=0) c co c c)<|bT c) ⟨((⟨0,0⟩:ab),false),c,H12⟩
def nS (K:Bool→Hp→Prop):Hp→Prop:=cl Tryz.prog wj [(.agg (aE.C (⟨2,2,3⟩:aE)).toArray)] jO fun r21=>br r21.isNone ( K false) ( cl Tryz.prog ci [(pv r21),(.int .i64 0),(.int .i64 0),(.agg (ae.C (⟨1,1,0,0,0⟩:ae)).toArray)] aX fun r27=>cl Tryz.prog ci [(pv r21),(.int .i64 0),(.int .i64 0),(.agg (ae.C (⟨6,4,1,3,0⟩:ae)).toArray)] aX fun r33=>cl Tryz.prog ci [(pv r21),(.int .i64 1),(.int .i64 0),(.agg (ae.C (⟨21,4,2,9,0⟩:ae)).toArray)] aX fun r39=>cl Tryz.prog ci [(pv r21),(.int .i64 0),(.int .i64 0),(.agg (ae.C (⟨20,4,2,0,0⟩:ae)).toArray)] aX fun r45=>cl Tryz.prog ci [(pv r21),(.int .i64 0),(.int .i64 0),(.agg (ae.C (⟨7,4,0,0,0⟩:ae)).toArray)] aX fun r51=>cl Tryz.prog gX [(pv r21)] eG fun r55=>cl Tryz.prog ol [(sv r55),(.agg (aE.C (⟨2,2,3⟩:aE)).toArray)] bH fun r59=>cl Tryz.prog oo [(sv r55),(.agg (aE.C (⟨2,2,3⟩:aE)).toArray)] bH fun r65=>cl Tryz.prog uj [(.int .i64 2),(.int .i64 3)] nE fun r68=>cl Tryz.prog kr [] ay fun r69=>br (((((((((((((((r69 && r27.2) && r33.2) && r39.2) && r45.2) && r51.2) && (r27.1.fErr == 0)) && (r33.1.fErr == 0)) && (r39.1.fErr == 0)) && (r45.1.fVal == 9)) && (r51.1.fErr == 0)) && ((r55.len:Int) == 5)) && (r59.1 == (-1))) && r59.2) && (r65.1 == (-1))) && r65.2) ( cl Tryz.prog wk [(sv r55),(.agg (aE.C (⟨2,2,3⟩:aE)).toArray)] ay fun r132=>br r132 ( cl Tryz.prog oq [(sv r55)] cr fun r136=>br (((r136.len:Int) == 5) && ((r68.len:Int) == 12)) ( cl Tryz.prog n_fair_Fair [(sv r68),(.int .i64 2),(.int .i64 5)] ay fun r147=>br r147 ( cl Tryz.prog n_twin_View [(sv r55),(.int .i64 0)] mu fun r151=>br ((r151.len:Int) == 5) ( cl Tryz.prog ui [(sv r55),(.agg (aE.C (⟨2,2,3⟩:aE)).toArray)] ay fun r158=>K r158) ( K false)) ( K false)) ( K false)) ( K false)) ( K false))
theorem uy {K:Bool→Hp→Prop} {h:Hp} (H:nS K h):Ct Tryz.prog ko #[] h fun v h'=>∃ r,v = ay r∧K r h':=au [] Tryz.func14 c c c fun _=>M<|O c<|M<|p (aW c<|sT 2 2 3)<|aa<|aK (l:=aE.C (⟨0,0,0⟩:aE)) zero_27 c c fun b1=>aa<|aN (k:=0) (vs:=aE.C (⟨2,2,3⟩:aE)) inf_27 c c c c c c c<|ac<|M<|bg (bw (k:=0) qy c c c c) c<|aa<|Z H en_21 fun r21 _ H1=>O c<|aj<|M<|J c<|p (cg Tryz.underlying24 c)<|ac<|ar c H1 (fun k2 H3=>M<|O c<|ah<|Y ⟨false,c,H3⟩) fun k2 H3=>am<|M<|J c<|p (aW c<|jM 1 1)<|aa<|Z H3 en_16 fun r27 _ H4=>J c<|p (ai c c)<|p (ai c c)<|aa<|aK (l:=ab.C (⟨0,0⟩:ab)) cE c c fun b3=>aa<|aN (k:=0) (vs:=ab.C r27.1) bF c c c c c c c<|O c<|M<|J c<|p (aW c<|dU 6 4 1 3)<|aa<|Z H4 en_16 fun r33 _ H5=>J c<|p (ai c c)<|p (ai c c)<|aa<|aK (l:=ab.C (⟨0,0⟩:ab)) cE c c fun b5=>aa<|aN (k:=0) (vs:=ab.C r33.1) bF c c c c c c c<|O c<|M<|J c<|p (aW c<|dU 21 4 2 9)<|aa<|Z H5 en_16 fun r39 _ H6=>J c<|p (ai c c)<|p (ai c c)<|aa<|aK (l:=ab.C (⟨0,0⟩:ab)) cE c c fun b7=>aa<|aN (k:=0) (vs:=ab.C r39.1) bF c c c c c c c<|O c<|M<|J c<|p (aW c<|lp 20 4 2)<|aa<|Z H6 en_16 fun r45 _ H7=>J c<|p (ai c c)<|p (ai c c)<|aa<|aK (l:=ab.C (⟨0,0⟩:ab)) cE c c fun b9=>aa<|aN (k:=0) (vs:=ab.C r45.1) bF c c c c c c c<|O c<|M<|J c<|p (aW c<|jM 7 4)<|aa<|Z H7 en_16 fun r51 _ H8=>J c<|p (ai c c)<|p (ai c c)<|aa<|aK (l:=ab.C (⟨0,0⟩:ab)) cE c c fun b11=>aa<|aN (k:=0) (vs:=ab.C r51.1) bF c c c c c c c<|O c<|M<|J c<|aa<|Z H8 en_20 fun r55 _ H9=>O c<|M<|J c<|bg (bw (k:=5) qy c c c c) c<|aa<|Z H9 en_39 fun r59 _ H10=>J c<|p (ai c c)<|p (ai c c)<|p (aq c)<|O c<|M<|J c<|bg (bw (k:=5) qy c c c c) c<|aa<|Z H10 en_40 fun r65 _ H11=>J c<|p (ai c c)<|p (ai c c)<|p (aq c)<|O c<|M<|aa<|Z H11 en_41 fun r68 _ H12=>O c<|M<|aa<|Z H12 en_42 fun r69 _ H13=>J c<|V c c (aw _) (fun g14=>wv<|ag c)<|p (bN c c)<|J c<|V c c (aw _) (fun g15=>wv<|ag c)<|p (bN c c)<|J c<|V c c (aw _) (fun g16=>wv<|ag c)<|p (bN c c)<|J c<|V c c (aw _) (fun g17=>wv<|ag c)<|p (bN c c)<|J c<|V c c (aw _) (fun g18=>wv<|ag c)<|p (bN c c)<|J c<|V c c (aw _) (fun g19=>wv<|ad gu c)<|V c c (aw _) (fun g20=>cv<|bc (k:=4) kK (az c g20) c c)<|V c c (aw _) (fun g21=>wv<|bM (az c g21) c)<|p (bN c c)<|J c<|V c c (aw _) (fun g22=>wv<|ad gu c)<|V c c (aw _) (fun g23=>cv<|bc (k:=3) kK (az c g23) c c)<|V c c (aw _) (fun g24=>wv<|bM (az c g24) c)<|p (bN c c)<|J c<|V c c (aw _) (fun g25=>wv<|ad gu c)<|V c c (aw _) (fun g26=>cv<|bc (k:=2) kK (az c g26) c c)<|V c c (aw _) (fun g27=>wv<|bM (az c g27) c)<|p (bN c c)<|J c<|V c c (aw _) (fun g28=>wv<|ad fld_30_1 c)<|V c c (aw _) (fun g29=>cv<|bc (k:=1) ck (az c g29) c c)<|V c c (aw _) (fun g30=>wv<|bM (az c g30) c)<|p (bN c c)<|J c<|V c c (aw _) (fun g31=>wv<|ad gu c)<|V c c (aw _) (fun g32=>cv<|bc (k:=0) kK (az c g32) c c)<|V c c (aw _) (fun g33=>wv<|bM (az c g33) c)<|p (bN c c)<|J c<|V c c (aw _) (fun g34=>wv<|ag c)<|V c c (aw _) (fun g35=>wv<|dz c Tryz.underlying43<|az c g35)<|V c c (aw _) (fun g36=>wv<|bM (az c g36) c)<|p (bN c c)<|J c<|V c c (aw _) (fun g37=>wv<|ag c)<|V c c (aw _) (fun g38=>wv<|bM (az c g38) c)<|p (bN c c)<|J c<|V c c (aw _) (fun g39=>wv<|ag c)<|p (bN c c)<|J c<|V c c (aw _) (fun g40=>wv<|ag c)<|V c c (aw _) (fun g41=>wv<|bM (az c g41) c)<|p (bN c c)<|J c<|V c c (aw _) (fun g42=>wv<|ag c)<|p (bN c c)<|J c<|V c c (aw _) (fun g43=>wv<|ag c)<|V c c (aw _) (fun g44=>cv<|bw (k:=5) qy c c c c)<|bP H13 (fun k46 H47=>F (D k46)<|fV H47 en_33 (aP (az c k46)<|aP (az c k46) bL) c fun r132 _ H48=>p (aR c k46 c)<|J c<|V c c (aw _) (fun g49=>wv<|ag c)<|bP H48 (fun k51 H52=>F (D k51)<|fV H52 en_43 (aP (az c k51) bL) c fun r136 _ H53=>F (D k51)<|R (dz c Tryz.underlying40 c)<|F (D k51)<|R (bM c c)<|p (aR c k51 c)<|J c<|V c c (aw _) (fun g54=>wv<|ag c)<|V c c (aw _) (fun g55=>wv<|dz c Tryz.underlying59<|az c g55)<|V c c (aw _) (fun g56=>wv<|bM (az c g56) c)<|p (bN c c)<|J c<|V c c (aw _) (fun g57=>wv<|ag c)<|bP H53 (fun k59 H60=>F (D k59)<|fV H60 en_44 (aP (az c k59)<|aP c<|aP c bL) c fun r147 _ H61=>p (aR c k59 c)<|J c<|V c c (aw _) (fun g62=>wv<|ag c)<|bP H61 (fun k64 H65=>F (D k64)<|fV H65 en_30 (aP (az c k64)<|aP c bL) c fun r151 _ H66=>F (D k64)<|R (dz c Tryz.underlying68 c)<|F (D k64)<|R (bM c c)<|p (aR c k64 c)<|J c<|V c c (aw _) (fun g67=>wv<|ag c)<|V c c (aw _) (fun g68=>cv<|bw (k:=5) qy c c c c)<|bP H66 (fun k70 H71=>F (D k70)<|fV H71 en_19 (aP (az c k70)<|aP (az c k70) bL) c fun r158 _ H72=>p (aR c k70 c)<|O c<|ah<|Y ⟨r158,c,H72⟩) fun k70 H71=>W (aQ k70)<|p (ao c k70 c)<|O c<|ah<|Y ⟨false,c,H71⟩) fun k64 H65=>W (aQ k64)<|W (aQ k64)<|W (aQ k64)<|p (ao c k64 c)<|J c<|W c<|W c<|W c<|p (ao c c c)<|O c<|ah<|Y ⟨false,c,H65⟩) fun k59 H60=>W (aQ k59)<|p (ao c k59 c)<|J c<|W c<|W c<|W c<|W c<|p (ao c c c)<|J c<|W c<|W c<|W c<|p (ao c c c)<|O c<|ah<|Y ⟨false,c,H60⟩) fun k51 H52=>W (aQ k51)<|W (aQ k51)<|W (aQ k51)<|p (ao c k51 c)<|J c<|W c<|W c<|W c<|p (ao c c c)<|J c<|W c<|W c<|p (ao c c c)<|J c<|W c<|W c<|W c<|W c<|p (ao c c c)<|J c<|W c<|W c<|W c<|p (ao c c c)<|O c<|ah<|Y ⟨false,c,H52⟩) fun k46 H47=>W (aQ k46)<|p (ao c k46 c)<|J c<|W c<|W c<|W c<|W c<|p (ao c c c)<|J c<|W c<|W c<|W c<|p (ao c c c)<|J c<|W c<|W c<|p (ao c c c)<|J c<|W c<|W c<|W c<|W c<|p (ao c c c)<|J c<|W c<|W c<|W c<|p (ao c c c)<|O c<|ah<|Y ⟨false,c,H47⟩
def jk (K:Ptr→Hp→Prop) (r11:Ptr) (v18:Sl) (Rec6:Int→Hp→Prop) (s5:Int):Hp→Prop:=br (decide (s5 < (v18.len:Int))) ( ix v18 s5 fun q22=>ld (q22.1,q22.2 + Int.toNat s5 * 5) ae.C fun x23=>cl Tryz.prog ci [(pv r11),(.int .i64 0),(.int .i64 0),(.agg (ae.C x23).toArray)] aX fun r27=>br ((!r27.2) || (r27.1.fErr != 0)) ( K none) ( Rec6 (IntKind.i64.wrap (s5 + 1)))) ( K r11)
def ne (a0:aE) (a1:Int) (K:Ptr→Hp→Prop):Hp→Prop:=cl Tryz.prog wj [(.agg (aE.C a0).toArray)] jO fun r11=>br r11.isNone ( K none) ( hpv Tryz.prog (Instr.buildSlice t_Sapi_Call 3 #[(0,(.agg (ae.C (⟨1,0,0,0,0⟩:ae)).toArray)),(1,(.agg (ae.C (⟨6,0,0,3,0⟩:ae)).toArray)),(2,(.agg (ae.C (⟨21,0,0,a1,0⟩:ae)).toArray))]) R_Sapi_Call fun (v18:Sl)=>Lp (jk K r11 v18) 0)
theorem ue (a0:aE) (a1:Int) {K:Ptr→Hp→Prop} {h:Hp} (H:ne a0 a1 K h):Ct Tryz.prog jJ #[(.agg (aE.C a0).toArray),(.int .u64 a1)] h fun v h'=>∃ r,v = jO r∧K r h':=au [(.agg (aE.C a0).toArray),(.int .u64 a1)] Tryz.func15 c c c fun _=>M<|aa<|cD (l:=aE.C a0) c c c fun b2=>O c<|M<|bg (bw (k:=0) qy c c c c) c<|aa<|Z H en_21 fun r11 _ H1=>O c<|aj<|M<|J c<|p (cg Tryz.underlying24 c)<|ac<|ar c H1 (fun k2 H3=>M<|O c<|ah<|Y ⟨none,c,H3⟩) fun k2 H3=>am<|aj<|M<|p (aW c<|jM 1 0)<|p (aW c<|dU 6 0 0 3)<|J c<|p (aW c<|dU 21 0 0 a1)<|aa<|aO H3 (bm (vs:=[(.agg (ae.C (⟨1,0,0,0,0⟩:ae)).toArray),(.agg (ae.C (⟨6,0,0,3,0⟩:ae)).toArray),(.agg (ae.C (⟨21,0,0,a1,0⟩:ae)).toArray)]) c) c fun v18 _ H4=>p (dz c Tryz.underlying66 c)<|J c<|ac<|av<|bA (step:=jk K r11 v18) (fun s5=>[(5,(pv r11)),(18,(sv v18)),(19,(.int .i64 (v18.len:Int))),(20,(.int .i64 s5))]) (fun s5=>[]) H4 (.cons c<|.cons c<|.cons c<|.cons c<|.nil _) (.cons _ .slnil) fun Rec6 s5 _ H7=>M<|p (cm c c)<|ac<|aj<|ar c H7 (fun k8 H9=>am<|aj<|av<|M<|ce H9 fun q22 e10 h11 H12=>p (bo slc_66 (aL c<|aZ e10) c h11)<|aa<|gx H12 eQ c (fun _=>c) c fun x23 H13=>aa<|aK (l:=ae.C (⟨0,0,0,0,0⟩:ae)) zero_34 c c fun b7=>aa<|aN (k:=0) (vs:=ae.C x23) inf_34 c c c c c c c<|ac<|M<|J c<|bg (bw (k:=0) eQ c c c c) c<|aa<|Z H13 en_16 fun r27 _ H14=>J c<|p (ai c c)<|p (ai c c)<|aa<|aK (l:=ab.C (⟨0,0⟩:ab)) cE c c fun b8=>aa<|aN (k:=0) (vs:=ab.C r27.1) bF c c c c c c c<|O c<|M<|J c<|p (cf c)<|J c<|V c c (aG _) (fun g15=>wv<|ad gu c)<|V c c (aG _) (fun g16=>cv<|bc (k:=0) kK (az c g16) c c)<|V c c (aG _) (fun g17=>wv<|nF (az c g17) c)<|p (cZ c c)<|ac<|ar c H14 (fun k18 H19=>M<|O c<|ah<|Y ⟨none,c,H19⟩) fun k18 H19=>am<|ap<|p (bp c c)<|J c<|ac<|cF (IntKind.i64.wrap (s5 + 1)) H19 (.cons c<|.cons c<|.cons c<|.cons c<|.nil _)<|.cons _<|.cons _ .slnil) fun k8 H9=>bh<|M<|J c<|O c<|ah<|Y ⟨r11,c,H9⟩
def fK (a0:Int) (a1:Int) (a2:Int) (K:Bool→Hp→Prop) (r34:Ptr) (Rec25:Int→Hp→Prop) (s24:Int):Hp→Prop:=br (decide (s24 < (IntKind.i64.wrap (2 + ((IntKind.i64.wrap ((a0.tmod 4) + 4)).tmod 4))))) ( cl Tryz.prog ci [(pv r34),(.int .i64 s24),(.int .i64 0),(.agg (ae.C (⟨21,0,(IntKind.u64.wrap ((IntKind.i64.wrap ((a2.tmod 16) + 16)).tmod 16)),5,0⟩:ae)).toArray)] aX fun r86=>cl Tryz.prog ci [(pv r34),(.int .i64 s24),(.int .i64 0),(.agg (ae.C (⟨20,0,(IntKind.u64.wrap ((IntKind.i64.wrap ((a2.tmod 16) + 16)).tmod 16)),0,0⟩:ae)).toArray)] aX fun r95=>br ((((!r86.2) || (!r95.2)) || (r86.1.fErr != 7)) || (!(ab.eqb r95.1 (⟨0,(IntKind.u64.wrap (a1 + (IntKind.u64.wrap (IntKind.i64.wrap ((IntKind.i64.wrap (2 + ((IntKind.i64.wrap ((a0.tmod 4) + 4)).tmod 4))) - 1)))))⟩:ab)))) ( K false) ( Rec25 (IntKind.i64.wrap (s24 + 1)))) ( K true)
def fL (a0:Int) (a1:Int) (a2:Int) (K:Bool→Hp→Prop) (r34:Ptr) (Rec8:Int→Hp→Prop) (s7:Int):Hp→Prop:=br (decide (s7 < (IntKind.i64.wrap (2 + ((IntKind.i64.wrap ((a0.tmod 4) + 4)).tmod 4))))) ( cl Tryz.prog ci [(pv r34),(.int .i64 s7),(.int .i64 0),(.agg (ae.C (⟨21,0,(IntKind.u64.wrap ((IntKind.i64.wrap ((a2.tmod 16) + 16)).tmod 16)),(IntKind.u64.wrap (a1 + (IntKind.u64.wrap s7))),0⟩:ae)).toArray)] aX fun r52=>br ((!r52.2) || (r52.1.fErr != 0)) ( K false) ( Rec8 (IntKind.i64.wrap (s7 + 1)))) ( cl Tryz.prog ci [(pv r34),(.int .i64 1),(.int .i64 0),(.agg (ae.C (⟨8,0,1,0,0⟩:ae)).toArray)] aX fun r65=>br ((!r65.2) || (r65.1.fErr != 0)) ( K false) ( Lp (fK a0 a1 a2 K r34) 0))
def jw (a0:Int) (a1:Int) (a2:Int) (K:Bool→Hp→Prop):Hp→Prop:=cl Tryz.prog ko [] ay fun r19=>br (!r19) ( K false) ( cl Tryz.prog jJ [(.agg (aE.C (⟨(IntKind.i64.wrap (2 + ((IntKind.i64.wrap ((a0.tmod 4) + 4)).tmod 4))),1,1⟩:aE)).toArray),(.int .u64 a1)] jO fun r34=>br r34.isNone ( K false) ( Lp (fL a0 a1 a2 K r34) 0))
theorem pt (a0:Int) (a1:Int) (a2:Int) {K:Bool→Hp→Prop} {h:Hp} (H:jw a0 a1 a2 K h):Ct Tryz.prog jS #[(.int .i64 a0),(.int .u64 a1),(.int .i64 a2)] h fun v h'=>∃ r,v = ay r∧K r h':=au [(.int .i64 a0),(.int .u64 a1),(.int .i64 a2)] Tryz.func3 c c c fun _=>M<|O c<|M<|aa<|Z H en_14 fun r19 _ H1=>O c<|aj<|M<|J c<|p (cf c)<|ac<|ar c H1 (fun k2 H3=>M<|O c<|ah<|Y ⟨false,c,H3⟩) fun k2 H3=>am<|M<|J c<|p (v_rem c c (by decide))<|p (bp c c)<|p (v_rem c c (by decide))<|p (bp c c)<|J c<|p (v_rem c c (by decide))<|p (bp c c)<|p (v_rem c c (by decide))<|p (aq c)<|O c<|M<|J c<|p (aW c<|sT (IntKind.i64.wrap (2 + ((IntKind.i64.wrap ((a0.tmod 4) + 4)).tmod 4))) 1 1)<|J c<|aa<|Z H3 en_15 fun r34 _ H4=>O c<|aj<|M<|J c<|p (cg Tryz.underlying24 c)<|ac<|ar c H4 (fun k5 H6=>M<|O c<|ah<|Y ⟨false,c,H6⟩) fun k5 H6=>am<|aj<|M<|O c<|av<|bA (step:=fL a0 a1 a2 K r34) (fun s7=>[(0,(.int .i64 (IntKind.i64.wrap (2 + ((IntKind.i64.wrap ((a0.tmod 4) + 4)).tmod 4))))),(1,(.int .u64 a1)),(2,(.int .i64 ((IntKind.i64.wrap ((a2.tmod 16) + 16)).tmod 16))),(8,(pv r34)),(9,(.int .i64 s7))]) (fun s7=>[]) H6 (.cons c<|.cons c<|.cons c<|.cons c<|.cons c<|.nil _) .slnil fun Rec8 s7 _ H9=>aj<|M<|J c<|J c<|p (cm c c)<|ac<|ar c H9 (fun k10 H11=>am<|aj<|av<|M<|J c<|J c<|J c<|p (dr ⟨_,Tryz.underlying3⟩ Tryz.underlying22 c)<|J c<|J c<|p (dr ⟨_,Tryz.underlying3⟩ Tryz.underlying22 c)<|p (bp c c)<|p (aW c<|dU 21 0 (IntKind.u64.wrap<|(IntKind.i64.wrap ((a2.tmod 16) + 16)).tmod 16)<|IntKind.u64.wrap (a1 + (IntKind.u64.wrap s7)))<|aa<|Z H11 en_16 fun r52 _ H12=>J c<|p (ai c c)<|p (ai c c)<|aa<|aK (l:=ab.C (⟨0,0⟩:ab)) cE c c fun b10=>aa<|aN (k:=0) (vs:=ab.C r52.1) bF c c c c c c c<|O c<|M<|J c<|p (cf c)<|J c<|V c c (aG _) (fun g13=>wv<|ad gu c)<|V c c (aG _) (fun g14=>cv<|bc (k:=0) kK (az c g14) c c)<|V c c (aG _) (fun g15=>wv<|nF (az c g15) c)<|p (cZ c c)<|ac<|ar c H12 (fun k16 H17=>M<|O c<|ah<|Y ⟨false,c,H17⟩) fun k16 H17=>am<|ap<|J c<|p (bp c c)<|O c<|cF (IntKind.i64.wrap (s7 + 1)) H17 (.cons c<|.cons c<|.cons c<|.cons c<|.cons c<|.nil _)<|.cons _ .slnil) fun k10 H11=>bh<|aj<|M<|J c<|p (aW c<|lp 8 0 1)<|aa<|Z H11 en_16 fun r65 _ H18=>J c<|p (ai c c)<|p (ai c c)<|aa<|aK (l:=ab.C (⟨0,0⟩:ab)) cE c c fun b12=>aa<|aN (k:=0) (vs:=ab.C r65.1) bF c c c c c c c<|O c<|M<|J c<|p (cf c)<|J c<|V c c (aG _) (fun g19=>wv<|ad gu c)<|V c c (aG _) (fun g20=>cv<|bc (k:=0) kK (az c g20) c c)<|V c c (aG _) (fun g21=>wv<|nF (az c g21) c)<|p (cZ c c)<|ac<|ar c H18 (fun k22 H23=>M<|O c<|ah<|Y ⟨false,c,H23⟩) fun k22 H23=>am<|aj<|M<|O c<|av<|bA (step:=fK a0 a1 a2 K r34) (fun s24=>[(0,(.int .i64 (IntKind.i64.wrap (2 + ((IntKind.i64.wrap ((a0.tmod 4) + 4)).tmod 4))))),(1,(.int .u64 a1)),(2,(.int .i64 ((IntKind.i64.wrap ((a2.tmod 16) + 16)).tmod 16))),(8,(pv r34)),(14,(.int .i64 s24))]) (fun s24=>[]) H23 (.cons c<|.cons c<|.cons c<|.cons c<|.cons c<|.nil _) (.cons _ .slnil) fun Rec25 s24 _ H26=>aj<|M<|J c<|J c<|p (cm c c)<|ac<|ar c H26 (fun k27 H28=>am<|aj<|av<|M<|J c<|J c<|J c<|p (dr ⟨_,Tryz.underlying3⟩ Tryz.underlying22 c)<|p (aW c<|dU 21 0 (IntKind.u64.wrap<|(IntKind.i64.wrap ((a2.tmod 16) + 16)).tmod 16) 5)<|aa<|Z H28 en_16 fun r86 _ H29=>J c<|p (ai c c)<|p (ai c c)<|aa<|aK (l:=ab.C (⟨0,0⟩:ab)) cE c c fun b15=>aa<|aN (k:=0) (vs:=ab.C r86.1) bF c c c c c c c<|O c<|M<|J c<|J c<|J c<|p (dr ⟨_,Tryz.underlying3⟩ Tryz.underlying22 c)<|p (aW c<|lp 20 0<|IntKind.u64.wrap<|(IntKind.i64.wrap ((a2.tmod 16) + 16)).tmod 16)<|aa<|Z H29 en_16 fun r95 _ H30=>J c<|p (ai c c)<|p (ai c c)<|aa<|aK (l:=ab.C (⟨0,0⟩:ab)) cE c c fun b17=>aa<|aN (k:=0) (vs:=ab.C r95.1) bF c c c c c c c<|O c<|M<|J c<|p (cf c)<|J c<|V c c (aG _) (fun g31=>wv<|ag c)<|V c c (aG _) (fun g32=>wv<|cf<|az c g32)<|p (cZ c c)<|J c<|V c c (aG _) (fun g33=>wv<|ad gu c)<|V c c (aG _) (fun g34=>cv<|bc (k:=1) kK (az c g34) c c)<|V c c (aG _) (fun g35=>wv<|nF (az c g35) c)<|p (cZ c c)<|J c<|V c c (aG _) (fun g36=>cv<|bw (k:=0) co c c c c)<|V c c (aG _) (fun g37=>wv<|ag c)<|V c c (aG _) (fun g38=>wv<|ag c)<|V c c (aG _) (fun g39=>wv<|us (az c g39) c)<|V c c (aG _) (fun g40=>wv<|dr ⟨_,Tryz.underlying3⟩ Tryz.underlying22<|az c g40)<|V c c (aG _) (fun g41=>wv<|bp (az c g41)<|az c g41)<|V c c (aG _) (fun g42=>wv<|aW (aP (az c g42) bL)<|iQ<|IntKind.u64.wrap (a1 + (IntKind.u64.wrap (IntKind.i64.wrap ((IntKind.i64.wrap (2 + ((IntKind.i64.wrap ((a0.tmod 4) + 4)).tmod 4))) - 1)))))<|V c c (aG _) (fun g43=>wv<|v_neA eqg_30 (eqr_30 9998 _ _) (az c g43)<|az c g43)<|p (cZ c c)<|ac<|ar c H30 (fun k44 H45=>M<|O c<|ah<|Y ⟨false,c,H45⟩) fun k44 H45=>am<|ap<|J c<|p (bp c c)<|O c<|cF (IntKind.i64.wrap (s24 + 1)) H45 (.cons c<|.cons c<|.cons c<|.cons c<|.cons c<|.nil _)<|.cons _<|.cons _ .slnil) fun k27 H28=>bh<|M<|O c<|ah<|Y ⟨true,c,H28⟩
end Go.Proofs.YtmggcfijlpldpaaGreatDoor
namespace Go.Proofs.YtmggcfijlpldpaaGreatDoor
open Go Mb
namespace KK
def drain (c:Int):Nat→KK→KK
  | 0,k=>k
  | n + 1,k=>if 0 < mail k c then drain c n (post k c).2 else k
def turn1 (k:KK) (c:Int):KK × Bool:=if busy (drain c 5000 k) c = true then ((step (drain c 5000 k) c).2,true) else (drain c 5000 k,false)
def sweep:Nat→Int→KK→Bool→KK × Bool
  | 0,_,k,b=>(k,b)
  | n + 1,c,k,b=>sweep n (c + 1) (turn1 k c).1 ((turn1 k c).2 || b)
def anyBusy (k:KK):Nat→Int→Bool
  | 0,_=>false
  | n + 1,c=>busy k c || anyBusy k n (c + 1)
def settle (cores:Nat):Nat→KK→Bool × KK
  | 0,k=>(!anyBusy k cores 0,k)
  | n + 1,k=>if (sweep cores 0 k false).2 = false then (true,(sweep cores 0 k false).1) else settle cores n (sweep cores 0 k false).1
def lastA (core:Int) (es:List bX):Nat→fT × Bool
  | 0=>(⟨0,0⟩,false)
  | n + 1=>match es[n]? with
    | some e=>if e.fCore = core then (e.fAnswer,decide (e.fEnd > 0)) else lastA core es n
    | none=>(⟨0,0⟩,false)
def run (k:KK) (core env:Int) (c:hX):(fT × Bool) × KK :=
  if (begin_ k core env c).1 = false then ((⟨0,0⟩,false),(begin_ k core env c).2)
  else if (settle 8 1000 (begin_ k core env c).2).1 = false then ((⟨0,0⟩,false),(settle 8 1000 (begin_ k core env c).2).2)
  else (lastA core (settle 8 1000 (begin_ k core env c).2).2.events (settle 8 1000 (begin_ k core env c).2).2.events.length,(settle 8 1000 (begin_ k core env c).2).2)
theorem access_now (k:KK) (c:Int) (x:KC):(access k c x).2.now = k.now:=by unfold access; split; rfl; split <;> rfl
theorem work_now (k:KK) (c:Int) (x:KC):(work k c x).now = k.now:=by
  unfold work
  split
  · exact access_now k c x
  · split
    · rfl
    · split
      · rfl
      · split <;> rfl
theorem step_now {k:KK} (h0:0 ≤ k.now) (h:k.now < 2 ^ 38) (c:Int):k.now ≤ (step k c).2.now∧(step k c).2.now ≤ k.now + 1:=by
  have hw:=wrapN h0 (by omega)
  unfold step
  split
  · exact ⟨Int.le_refl _,by show k.now ≤ k.now + 1; omega⟩
  · split
    · exact ⟨Int.le_refl _,by show k.now ≤ k.now + 1; omega⟩
    · show _ ≤ (work _ _ _).now∧(work _ _ _).now ≤ _
      rw [work_now]
      simp only [tick,hw]; omega
theorem post_now {k:KK} (h0:0 ≤ k.now) (h:k.now < 2 ^ 38) (c:Int):k.now ≤ (post k c).2.now∧(post k c).2.now ≤ k.now + 1:=by
  have hw:=wrapN h0 (by omega)
  unfold post
  split
  · exact ⟨Int.le_refl _,by show k.now ≤ k.now + 1; omega⟩
  · split
    · exact ⟨Int.le_refl _,by show k.now ≤ k.now + 1; omega⟩
    · show _ ≤ (tick k).now∧(tick k).now ≤ _
      simp only [tick,hw]; omega
theorem begin_now {k:KK} (h0:0 ≤ k.now) (h:k.now < 2 ^ 38) (core env:Int) (c:hX):k.now ≤ (begin_ k core env c).2.now∧(begin_ k core env c).2.now ≤ k.now + 1:=by
  have hw:=wrapN h0 (by omega)
  unfold begin_
  split
  · exact ⟨Int.le_refl _,by show k.now ≤ k.now + 1; omega⟩
  · simp only [hw]; omega
end KK
section
variable {x:Ptr} {l:List As}
theorem kern_n0 {k:KK} {h:Hp} (s:aC (cG x k::l) h):0 ≤ k.now∧k.events.length ≤ k.now:=by
  obtain ⟨z,_,_,ok,_⟩:=tQ s
  exact ⟨ok.n0,ok.evn⟩
theorem settle_l3 {Rec:Bool × Int→Hp→Prop} {k:KK} {b:Bool} {c:Int} {h:Hp} (h0:0 ≤ c) (hc:c < 100) (hn:k.now + 5001 < 2 ^ 37) (st:aC (cG x k::l) h)
    (kk:∀ h',(KK.turn1 k c).1.now ≤ k.now + 5001→aC (cG x (KK.turn1 k c).1::l) h'→Rec ((KK.turn1 k c).2 || b,c + 1) h'):Lp (fY x Rec (b,c)) 0 h:=by
  have hj:∀ d h',KK.drain c 5000 k = d→d.now ≤ k.now + 5000→aC (cG x d::l) h'→eN x Rec (b,c) () h':=by
    intro d h' e hd s1
    unfold eN
    refine bK (i:=0) (nM x d c) rfl s1 fun r h2 hr s2=>?_
    refine bK (i:=0) (nM x d c) rfl s2 fun r' h3 hr' s3=>?_
    subst hr; subst hr'
    have hw:IntKind.i64.wrap (c + 1) = c + 1:=bO (by omega) (by omega)
    simp only [hw]
    refine aV (fun k2=>?_) (fun k2=>?_)
    · refine bK (i:=0) (sp_kern_Step x d c (by omega)) rfl s3 fun r h4 hr s4=>?_
      have e2:KK.turn1 k c = ((KK.step d c).2,true):=by unfold KK.turn1; rw [e,if_pos k2]
      have n1:=kern_n0 s3
      have n2:=KK.step_now n1.1 (by omega) c
      rw [e2] at kk
      rw [k2]
      exact kk h4 (by show (KK.step d c).2.now ≤ _; omega) s4
    · have e2:KK.turn1 k c = (d,false):=by unfold KK.turn1; rw [e,if_neg (by rw [k2]; exact Bool.false_ne_true)]
      rw [e2] at kk
      rw [k2]
      exact kk h3 (by show d.now ≤ _; omega) s3
  refine Lp.intro (fun (m:Int) h=>∃ (n:Nat) (d:KK),m = 5000 - n∧n ≤ 5000∧KK.drain c n d = KK.drain c 5000 k∧d.now ≤ k.now + (5000 - n)∧aC (cG x d::l) h) (fun m _=>(5000 - m).toNat) ⟨5000,k,rfl,Nat.le_refl _,rfl,by omega,st⟩ ?_
  rintro m h1 ⟨n,d,rfl,hm,e,hd,s1⟩
  unfold fY
  refine aV (fun k1=>?_) (fun k1=>?_)
  · have hlt:0 < n:=by have:=of_decide_eq_true k1; omega
    obtain ⟨n,rfl⟩:∃ j,n = j + 1:=⟨n - 1,by omega⟩
    refine bK (i:=0) (sp_kern_Mail x d c) rfl s1 fun r h2 hr s2=>?_
    subst hr
    refine aV (fun k2=>?_) (fun k2=>?_)
    · have k2':0 < KK.mail d c:=of_decide_eq_true k2
      refine bK (i:=0) (sp_kern_Post x d c (by omega)) rfl s2 fun r h3 hr s3=>?_
      have n1:=kern_n0 s2
      have n2:=KK.post_now n1.1 (by omega) c
      have hw:IntKind.i64.wrap ((5000:Int) - ((n + 1:Nat):Int) + 1) = 5000 - (n:Int):=by rw [bO (by omega) (by omega)]; omega
      rw [hw]
      refine ⟨⟨n,_,rfl,by omega,?_,by omega,s3⟩,by show (5000 - (5000 - (n:Int))).toNat < (5000 - (5000 - ((n + 1:Nat):Int))).toNat; omega⟩
      rw [← e]
      exact (if_pos k2').symm
    · have k2':¬ 0 < KK.mail d c:=of_decide_eq_false k2
      exact hj d h2 (by rw [← e]; exact if_neg k2') (by omega) s2
  · have hz:n = 0:=by have:=of_decide_eq_false k1; omega
    subst hz
    exact hj d h1 e.symm (by omega) s1
theorem settle_l2 {Rec2:Int→Hp→Prop} {K:Bool→Hp→Prop} {k:KK} {m:Int} {cores:Nat} {h:Hp} (hc:cores ≤ 8) (hn:k.now + cores * 5001 < 2 ^ 37) (st:aC (cG x k::l) h)
    (kt:∀ h',(KK.sweep cores 0 k false).2 = false→(KK.sweep cores 0 k false).1.now ≤ k.now + cores * 5001→aC (cG x (KK.sweep cores 0 k false).1::l) h'→K true h')
    (kf:∀ h',(KK.sweep cores 0 k false).2 = true→(KK.sweep cores 0 k false).1.now ≤ k.now + cores * 5001→aC (cG x (KK.sweep cores 0 k false).1::l) h'→Rec2 (IntKind.i64.wrap (m + 1)) h') :
    Lp (fZ x cores K Rec2 m) (false,0) h:=by
  refine Lp.intro (fun (s:Bool × Int) h=>∃ (n:Nat) (d:KK),s.2 = (cores:Int) - n∧n ≤ cores∧KK.sweep n s.2 d s.1 = KK.sweep cores 0 k false∧d.now ≤ k.now + (cores - n) * 5001∧aC (cG x d::l) h) (fun s _=>cores - s.2.toNat)
    ⟨cores,k,by simp,Nat.le_refl _,rfl,by simp,st⟩ ?_
  rintro ⟨b,c⟩ h1 ⟨n,d,e0,hm,e,hd,s1⟩
  simp only at e0 e
  subst e0
  unfold fZ
  refine aV (fun k1=>?_) (fun k1=>?_)
  · have hlt:0 < n:=by have:=of_decide_eq_true k1; simp only at this; omega
    obtain ⟨n,rfl⟩:∃ j,n = j + 1:=⟨n - 1,by omega⟩
    have hq:(((cores:Int) - ((n + 1:Nat):Int)) * 5001) + 5001 = ((cores:Int) - n) * 5001:=by omega
    have hq2:((cores:Int) - n) * 5001 ≤ cores * 5001:=by omega
    refine settle_l3 (by omega) (by omega) (by omega) s1 fun h' hnow s2=>?_
    have hw:(cores:Int) - ((n + 1:Nat):Int) + 1 = (cores:Int) - n:=by omega
    refine ⟨⟨n,_,hw,by omega,?_,by omega,s2⟩,?_⟩
    · rw [← e]; rfl
    · show cores - ((cores:Int) - ((n + 1:Nat):Int) + 1).toNat < cores - ((cores:Int) - ((n + 1:Nat):Int)).toNat
      omega
  · have hz:n = 0:=by have:=of_decide_eq_false k1; simp only at this; omega
    subst hz
    have e':(d,b) = KK.sweep cores 0 k false:=e
    refine aV (fun k2=>?_) (fun k2=>?_)
    · have hb:b = false:=by simpa using k2
      rw [← e'] at kt
      exact kt h1 hb (by show d.now ≤ _; simpa using hd) s1
    · have hb:b = true:=by simpa using k2
      rw [← e'] at kf
      exact kf h1 hb (by show d.now ≤ _; simpa using hd) s1
theorem settle_l4 {K:Bool→Hp→Prop} {k:KK} {cores:Nat} {h:Hp} (hc:cores ≤ 8) (st:aC (cG x k::l) h)
    (kk:∀ h',aC (cG x k::l) h'→K (!KK.anyBusy k cores 0) h'):Lp (fX x cores K) 0 h:=by
  refine Lp.intro (fun (c:Int) h=>∃ n:Nat,c = (cores:Int) - n∧n ≤ cores∧KK.anyBusy k n c = KK.anyBusy k cores 0∧aC (cG x k::l) h) (fun s _=>cores - s.toNat) ⟨cores,by simp,Nat.le_refl _,rfl,st⟩ ?_
  rintro c h1 ⟨n,rfl,hm,e,s1⟩
  unfold fX
  refine aV (fun k1=>?_) (fun k1=>?_)
  · have hlt:0 < n:=by have:=of_decide_eq_true k1; omega
    obtain ⟨n,rfl⟩:∃ j,n = j + 1:=⟨n - 1,by omega⟩
    refine bK (i:=0) (nM x k _) rfl s1 fun r h2 hr s2=>?_
    subst hr
    have e':(KK.busy k ((cores:Int) - ((n + 1:Nat):Int)) || KK.anyBusy k n ((cores:Int) - ((n + 1:Nat):Int) + 1)) = KK.anyBusy k cores 0:=e
    refine aV (fun k2=>?_) (fun k2=>?_)
    · rw [k2,Bool.true_or] at e'
      rw [← e'] at kk
      exact kk h2 s2
    · rw [k2,Bool.false_or] at e'
      have hw:IntKind.i64.wrap ((cores:Int) - ((n + 1:Nat):Int) + 1) = (cores:Int) - ((n + 1:Nat):Int) + 1:=bO (by omega) (by omega)
      rw [hw]
      refine ⟨⟨n,by omega,by omega,e',s2⟩,by omega⟩
  · have hz:n = 0:=by have:=of_decide_eq_false k1; omega
    subst hz
    have e':false = KK.anyBusy k cores 0:=e
    rw [← e'] at kk
    exact kk h1 s1
end
theorem sp_Settle (x:Ptr) (k:KK) (cores most:Nat) (hc:cores ≤ 8) (hm:most ≤ 1000) (hn:k.now < 2 ^ 36):Sp Tryz.prog gC [pv x,.int .i64 cores,.int .i64 most] ay [cG x k]
    (fun r=>pa_ (r = (KK.settle cores most k).1∧(KK.settle cores most k).2.now ≤ k.now + most * 40008) [cG x (KK.settle cores most k).2]):=by
  intro h st
  refine uf _ _ _ ?_
  unfold ng
  refine Lp.intro (fun (m:Int) h=>∃ (n:Nat) (d:KK),m = (most:Int) - n∧n ≤ most∧KK.settle cores n d = KK.settle cores most k∧d.now ≤ k.now + (most - n) * 40008∧aC [cG x d] h) (fun m _=>most - m.toNat)
    ⟨most,k,by simp,Nat.le_refl _,rfl,by simp,st⟩ ?_
  rintro m h1 ⟨n,d,rfl,hnm,e,hd,s1⟩
  unfold jl
  have hq:((most:Int) - n) * 40008 ≤ 1000 * 40008:=by omega
  have hq2:(cores:Int) * 5001 ≤ 40008:=by omega
  refine aV (fun k1=>?_) (fun k1=>?_)
  · have hlt:0 < n:=by have:=of_decide_eq_true k1; omega
    obtain ⟨n,rfl⟩:∃ j,n = j + 1:=⟨n - 1,by omega⟩
    have e':(if (KK.sweep cores 0 d false).2 = false then (true,(KK.sweep cores 0 d false).1) else KK.settle cores n (KK.sweep cores 0 d false).1) = KK.settle cores most k:=e
    refine settle_l2 hc (by omega) s1 (fun h' hb hnow s2=>?_) (fun h' hb hnow s2=>?_)
    · rw [if_pos hb] at e'
      rw [← e']
      exact aU ⟨rfl,by show (KK.sweep cores 0 d false).1.now ≤ _; omega⟩ s2
    · rw [if_neg (by rw [hb]; decide)] at e'
      have hw:IntKind.i64.wrap ((most:Int) - ((n + 1:Nat):Int) + 1) = (most:Int) - n:=by rw [bO (by omega) (by omega)]; omega
      rw [hw]
      exact ⟨⟨n,_,rfl,by omega,e',by omega,s2⟩,by omega⟩
  · have hz:n = 0:=by have:=of_decide_eq_false k1; omega
    subst hz
    have e':(!KK.anyBusy d cores 0,d) = KK.settle cores most k:=e
    refine settle_l4 hc s1 fun h' s2=>?_
    rw [← e']
    exact aU ⟨rfl,by show d.now ≤ _; simpa using hd⟩ s2
theorem run_yes {k:KK} {core env:Int} {c:hX} {d e:KK} (h1:(KK.begin_ k core env c) = (true,d)) (h2:KK.settle 8 1000 d = (true,e)):KK.run k core env c = (KK.lastA core e.events e.events.length,e):=by
  unfold KK.run
  rw [h1]
  dsimp only
  rw [if_neg (by decide),h2]
  dsimp only
  rw [if_neg (by decide)]
theorem run_l1 {s:Sl} {es:List bX} {l:List As} {core:Int} {K:fT × Bool→Hp→Prop} {h:Hp} (hb:es.length < 2 ^ 38) (st:aC (vE s es::l) h)
    (kk:∀ h',aC (vE s es::l) h'→K (KK.lastA core es es.length) h'):Lp (fM core K s) (IntKind.i64.wrap ((s.len:Int) - 1),⟨0,0⟩) h:=by
  have hl:=(cd (j:=0) st rfl).1
  have hw0:IntKind.i64.wrap ((s.len:Int) - 1) = (es.length:Int) - 1:=by rw [hl,bO (by omega) (by omega)]
  rw [hw0]
  refine Lp.intro (fun (z:Int × fT) h=>∃ n:Nat,z = ((n:Int) - 1,⟨0,0⟩)∧n ≤ es.length∧KK.lastA core es n = KK.lastA core es es.length∧aC (vE s es::l) h) (fun z _=>(z.1 + 1).toNat) ⟨_,rfl,Nat.le_refl _,rfl,st⟩ ?_
  rintro _ h1 ⟨n,rfl,hn,e,s1⟩
  unfold fM
  refine aV (fun k1=>?_) (fun k1=>?_)
  · have hlt:0 < n:=by have:=of_decide_eq_true k1; simp only at this; omega
    obtain ⟨n,rfl⟩:∃ j,n = j + 1:=⟨n - 1,by omega⟩
    have hn':n < es.length:=by omega
    have hi:((n + 1:Nat):Int) - 1 = (n:Int):=by omega
    simp only [hi]
    have e':(match es[n]? with
      | some e=>if e.fCore = core then (e.fAnswer,decide (e.fEnd > 0)) else KK.lastA core es n
      | none=>(⟨0,0⟩,false)) = KK.lastA core es es.length:=e
    rw [aD hn'] at e'
    simp only at e'
    refine dv s1 (j:=0) rfl (by omega) (by show (n:Int) < _; omega) fun q hq=>?_
    have lk:∀ {σ:Type} {enc:σ→List Value} {K:σ→Hp→Prop} (y:σ) (o:Nat),(∀ i v,(enc y)[i]? = some v→(es[n].C)[o + i]? = some v)→K y h1→ld (q.1,q.2 + Int.toNat (n:Int) * 16 + o) enc K h1:=by
      intro σ enc K y o he k
      exact dZ (j:=0) (i:=n) (k:=o) y mQ s1 rfl hq (by simp) (aD hn') he k
    refine lk es[n].fCore 0 (fun i v hv=>?_) ?_
    · rcases i with _ | i <;> first | exact hv | simp [cI] at hv
    refine aV (fun k2=>?_) (fun k2=>?_)
    · have k2':es[n].fCore = core:=by simpa using k2
      rw [if_pos k2'] at e'
      have hA:∀ i v,(ab.C es[n].fAnswer)[i]? = some v→(es[n].C)[10 + i]? = some v:=by
        intro i v hv
        rcases i with _ | _ | i <;> first | exact hv | simp [ab.C] at hv
      have hE:∀ i v,((cI .i64) es[n].fEnd)[i]? = some v→(es[n].C)[9 + i]? = some v:=by
        intro i v hv
        rcases i with _ | i <;> first | exact hv | simp [cI] at hv
      refine ⟨lk _ 10 hA (lk _ 9 hE ?_),lk _ 9 hE (lk _ 10 hA ?_)⟩
      · rw [e']; exact kk h1 s1
      · rw [e']; exact kk h1 s1
    · have k2':¬ es[n].fCore = core:=by simpa using k2
      rw [if_neg k2'] at e'
      rw [bO (by omega) (by omega)]
      exact ⟨⟨n,rfl,by omega,e',s1⟩,by show ((n:Int) - 1 + 1).toNat < ((n:Int) + 1).toNat; omega⟩
  · have hz:n = 0:=by have:=of_decide_eq_false k1; simp only at this; omega
    subst hz
    have e':((⟨0,0⟩,false):fT × Bool) = KK.lastA core es es.length:=e
    rw [← e'] at kk
    exact kk h1 s1
theorem run_no {k:KK} {core env:Int} {c:hX} {d e:KK} (h1:(KK.begin_ k core env c) = (true,d)) (h2:KK.settle 8 1000 d = (false,e)):KK.run k core env c = ((⟨0,0⟩,false),e):=by
  unfold KK.run
  rw [h1]
  dsimp only
  rw [if_neg (by decide),h2]
  dsimp only
  rw [if_pos rfl]
theorem run_tail (x:Ptr) (k:KK) (core env:Int) (c:hX) (d:KK) (h1:KK.begin_ k core env c = (true,d)) (hn:d.now ≤ k.now + 1) (hk:k.now < 2 ^ 35) {h:Hp} (s1:aC [cG x d] h) :
    (cl Tryz.prog gC [(pv x),(.int .i64 8),(.int .i64 1000)] ay fun r20 =>
      br (!r20) ((fun r h'=>pa_ (r = (KK.run k core env c).1∧(KK.run k core env c).2.now ≤ k.now + 40008001) [cG x (KK.run k core env c).2] h') (⟨0,0⟩,false)) (
      cl Tryz.prog gX [(pv x)] eG fun r24 =>
      Lp (fM core (fun r h'=>pa_ (r = (KK.run k core env c).1∧(KK.run k core env c).2.now ≤ k.now + 40008001) [cG x (KK.run k core env c).2] h') r24) ((IntKind.i64.wrap ((r24.len:Int) - 1)),(⟨0,0⟩:ab)))) h:=by
  have c8:=sp_Settle x d 8 1000 (Nat.le_refl _) (Nat.le_refl _) (by omega)
  generalize hz:KK.settle 8 1000 d = z at c8
  obtain ⟨b,e⟩:=z
  refine bK (i:=0) c8 rfl s1 fun r h2 hr s2=>?_
  obtain ⟨hr,hs⟩:=hr
  have hs':e.now ≤ d.now + 40008000:=hs
  have n2:=kern_n0 s2
  have hr':r = b:=hr
  rw [hr']
  cases b
  · rw [run_no h1 hz]
    exact dL rfl (aU ⟨rfl,by show e.now ≤ _; omega⟩ s2)
  · refine df rfl ?_
    refine cl_n (i:=0) (sp_kern_Events x _ (by show e.now < _; omega)) rfl s2 fun s h3 s3=>?_
    refine run_l1 (by show e.events.length < _; have:(e.events.length:Int) ≤ e.now:=n2.2; omega) s3 fun h4 s4=>?_
    rw [run_yes h1 hz]
    exact aU ⟨rfl,by show e.now ≤ _; omega⟩ (bU (l:=[_]) s4)
theorem ua (x:Ptr) (k:KK) (core env:Int) (c:hX) (hn:k.now < 2 ^ 35):Sp Tryz.prog ci [pv x,.int .i64 core,.int .i64 env,.agg c.C.toArray] aX [cG x k]
    (fun r=>pa_ (r = (KK.run k core env c).1∧(KK.run k core env c).2.now ≤ k.now + 40008001) [cG x (KK.run k core env c).2]):=by
  intro h st
  have n0:=kern_n0 st
  have nb:=KK.begin_now n0.1 (by omega) core env c
  refine sim_messuagelaw16_Run _ _ _ _ ?_
  unfold qk
  refine bK (i:=0) (sp_kern_Begin x k core env c (by omega)) rfl st fun r h1 hr s1=>?_
  subst hr
  refine aV (fun k1=>?_) (fun k1=>?_)
  · have k1':(KK.begin_ k core env c).1 = false:=by simpa using k1
    have e:KK.run k core env c = ((⟨0,0⟩,false),(KK.begin_ k core env c).2):=if_pos k1'
    rw [e]
    exact aU ⟨rfl,by show (KK.begin_ k core env c).2.now ≤ _; omega⟩ s1
  · have k1':(KK.begin_ k core env c).1 = true:=by simpa using k1
    exact run_tail x k core env c (KK.begin_ k core env c).2 (by rw [← k1']) (by omega) hn s1
end Go.Proofs.YtmggcfijlpldpaaGreatDoor
