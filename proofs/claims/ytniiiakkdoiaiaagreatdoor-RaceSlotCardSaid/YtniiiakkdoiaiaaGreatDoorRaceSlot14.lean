/- Part of the proof of: The law RaceSlot returns true for every input, and leaves its arguments as they were. -/
import Derived.Test.YtniiiakkdoiaiaaGreatDoorRaceSlot13
set_option linter.all false
set_option maxRecDepth 20000
namespace Go.Proofs.YtniiiakkdoiaiaaGreatDoor
open Go Mb
structure Ev1 (k:KK) (e:bj):Prop where
  c0:0 ≤ e.fCore
  c1:e.fCore < k.p.s.fCores
  v0:0 ≤ e.fEnv
  v1:e.fEnv < k.p.s.fEnvs
  b0:1 ≤ e.fBegin
  b1:e.fBegin ≤ k.now
  st:(e.fEffect = 0∧e.fEnd = 0)∨(e.fBegin < e.fEffect∧e.fEnd = e.fEffect∧e.fEffect ≤ k.now)
structure jj (k:KK):Prop where
  one:∀ (i:Nat) e,k.events[i]? = some e→Ev1 k e
  up:∀ (i j:Nat) d e,i < j→k.events[i]? = some d→k.events[j]? = some e→d.fBegin < e.fBegin
  ef:∀ (i j:Nat) d e,k.events[i]? = some d→k.events[j]? = some e→d.fEffect > 0→d.fEffect = e.fEffect→i = j
  co:∀ (i j:Nat) d e,i < j→k.events[i]? = some d→k.events[j]? = some e→d.fCore = e.fCore→d.fEnd > 0∧d.fEnd < e.fBegin
  call:∀ (c:Nat) x,k.calls[c]? = some (some x)→∃ n:Nat,x.fat = n∧∃ e,k.events[n]? = some e∧e.fCore = c∧e.fEnv = x.fenv∧e.fCall = x.fc∧e.fEffect = 0
  open_:∀ (i:Nat) e,k.events[i]? = some e→e.fEffect = 0→∃ x,k.calls[e.fCore.toNat]? = some (some x)∧x.fat = i
theorem evinv_new (s:fK):jj (KK.new s):=by
  have hn:∀ i:Nat,(KK.new s).events[i]? = none:=fun i=>by simp [KK.new]
  refine ⟨fun i e h=>?_,fun i j d e _ h _=>?_,fun i j d e h _ _ _=>?_,fun i j d e _ h _ _=>?_,fun c x h=>absurd h (rR s c x),fun i e h _=>?_⟩ <;> (rw [hn] at h; cases h)
theorem Ev1.later {k k':KK} {e:bj} (h:Ev1 k e) (hs:k'.p.s = k.p.s) (hn:k.now ≤ k'.now):Ev1 k' e :=
  ⟨h.c0,by rw [hs]; exact h.c1,h.v0,by rw [hs]; exact h.v1,h.b0,by have:=h.b1; omega,by rcases h.st with a | a; exact .inl a; exact .inr ⟨a.1,a.2.1,by omega⟩⟩
theorem jj.same {k k':KK} (E:jj k) (he:k'.events = k.events) (hs:k'.p.s = k.p.s) (hn:k.now ≤ k'.now) (h1:∀ (c:Nat) x,k'.calls[c]? = some (some x)→∃ y,k.calls[c]? = some (some y)∧y.fat = x.fat∧y.fenv = x.fenv∧y.fc = x.fc) (h2:∀ (c:Nat) x,k.calls[c]? = some (some x)→∃ y,k'.calls[c]? = some (some y)∧y.fat = x.fat):jj k':=by
  refine ⟨fun i e h=>?_,fun i j d e hij h h'=>?_,fun i j d e h h'=>?_,fun i j d e hij h h'=>?_,fun c x hx=>?_,fun i e h h0=>?_⟩
  · rw [he] at h; exact (E.one i e h).later hs hn
  · rw [he] at h h'; exact E.up i j d e hij h h'
  · rw [he] at h h'; exact E.ef i j d e h h'
  · rw [he] at h h'; exact E.co i j d e hij h h'
  · obtain ⟨y,hy,e1,e2,e3⟩:=h1 c x hx
    obtain ⟨n,hn1,e,g1,g2,g3,g4,g5⟩:=E.call c y hy
    exact ⟨n,e1 ▸ hn1,e,by rw [he]; exact g1,g2,e2 ▸ g3,e3 ▸ g4,g5⟩
  · rw [he] at h
    obtain ⟨x,hx,e1⟩:=E.open_ i e h h0
    obtain ⟨y,hy,e2⟩:=h2 _ x hx
    exact ⟨y,hy,e2.trans e1⟩
theorem jj.begin {k:KK} (E:jj k) (ok:KK.Ok k) (hn:k.now < 2 ^ 40) (core env:Int) (c:df):jj (KK.begin_ k core env c).2:=by
  unfold KK.begin_
  split
  · exact E
  · rename_i h
    simp only [not_or,Bool.not_eq_false,Bool.not_eq_true] at h
    obtain ⟨hi,hb,h0,h1⟩:=h
    obtain ⟨n,rfl,hlt⟩:=mD hi
    have hnone:k.calls[n]? = some none:=by
      cases hx:k.calls[n]? with
      | none=>rw [List.getElem?_eq_getElem hlt] at hx; cases hx
      | some o =>
        cases o with
        | none=>rfl
        | some x =>
          exfalso
          unfold KK.busy at hb
          rw [hi] at hb
          have:KK.call k n = some x:=by unfold KK.call; rw [Int.toNat_natCast,List.getD_eq_getElem?_getD,hx]; rfl
          rw [this] at hb; cases hb
    have hw:=wrapN ok.n0 hn
    have hcl:=ok.cl
    rw [hw]
    have get:∀ (i:Nat) e,(k.events++[KK.ev0 n env c (k.now + 1)])[i]? = some e→(i < k.events.length∧k.events[i]? = some e)∨(i = k.events.length∧e = KK.ev0 n env c (k.now + 1)):=by
      intro i e he
      rcases Nat.lt_or_ge i k.events.length with h | h
      · rw [List.getElem?_append_left h] at he; exact .inl ⟨h,he⟩
      · rw [List.getElem?_append_right h] at he
        by_cases e0:i - k.events.length = 0
        · rw [e0] at he
          exact .inr ⟨by omega,by simpa using he.symm⟩
        · rw [List.getElem?_eq_none (by simp; omega)] at he; cases he
    have mk:∀ e,Ev1 k e→Ev1 { k with now:=k.now + 1,events:=k.events++[KK.ev0 n env c (k.now + 1)],calls:=k.calls.set n (some ⟨k.events.length,env,c,false,0⟩) } e:=fun e h=>h.later rfl (by show k.now ≤ k.now + 1; omega)
    have cget:∀ (a:Nat) x,(k.calls.set n (some (⟨k.events.length,env,c,false,0⟩:KC)))[a]? = some (some x)→(a = n∧x = ⟨k.events.length,env,c,false,0⟩)∨(a ≠ n∧k.calls[a]? = some (some x)):=by
      intro a x hx
      rw [List.getElem?_set] at hx
      by_cases e:n = a
      · rw [if_pos e,if_pos hlt] at hx
        exact .inl ⟨e.symm,by simpa using hx.symm⟩
      · rw [if_neg e] at hx; exact .inr ⟨fun h=>e h.symm,hx⟩
    refine ⟨fun i e he=>?_,fun i j d e hij hd he=>?_,fun i j d e hd he hp heq=>?_,fun i j d e hij hd he hc=>?_,fun a x hx=>?_,fun i e he h00=>?_⟩
    · rcases get i e he with ⟨_,h⟩ | ⟨_,rfl⟩
      · exact mk e (E.one i e h)
      · exact ⟨by show (0:Int) ≤ n; omega,by show (n:Int) < k.p.s.fCores; omega,by show 0 ≤ env; omega,by show env < k.p.s.fEnvs; omega,by show 1 ≤ k.now + 1; have:=ok.n0; omega,Int.le_refl _,.inl ⟨rfl,rfl⟩⟩
    · rcases get j e he with ⟨hj,h⟩ | ⟨hj,rfl⟩
      · rcases get i d hd with ⟨_,h'⟩ | ⟨hi',_⟩
        · exact E.up i j d e hij h' h
        · omega
      · rcases get i d hd with ⟨_,h'⟩ | ⟨hi',_⟩
        · have:=(E.one i d h').b1
          show d.fBegin < k.now + 1; omega
        · omega
    · rcases get i d hd with ⟨_,h'⟩ | ⟨_,rfl⟩
      · rcases get j e he with ⟨_,h⟩ | ⟨_,rfl⟩
        · exact E.ef i j d e h' h hp heq
        · have:(KK.ev0 n env c (k.now + 1)).fEffect = 0:=rfl
          omega
      · have:(KK.ev0 n env c (k.now + 1)).fEffect = 0:=rfl
        omega
    · rcases get j e he with ⟨hj,h⟩ | ⟨hj,rfl⟩
      · rcases get i d hd with ⟨_,h'⟩ | ⟨hi',_⟩
        · exact E.co i j d e hij h' h hc
        · omega
      · rcases get i d hd with ⟨_,h'⟩ | ⟨hi',_⟩
        · have o:=E.one i d h'
          have hcc:d.fCore = n:=hc
          have hb1:=o.b1
          rcases o.st with s1 | s1
          · exfalso
            obtain ⟨x,hx,_⟩:=E.open_ i d h' s1.1
            rw [hcc,Int.toNat_natCast,hnone] at hx
            cases hx
          · have:=o.b0
            exact ⟨by omega,by show d.fEnd < k.now + 1; omega⟩
        · omega
    · rcases cget a x hx with ⟨rfl,rfl⟩ | ⟨_,h⟩
      · exact ⟨k.events.length,rfl,KK.ev0 a env c (k.now + 1),by simp,rfl,rfl,rfl,rfl⟩
      · obtain ⟨m,h2,e,g1,g2⟩:=E.call a x h
        refine ⟨m,h2,e,?_,g2⟩
        show (k.events++[_])[m]? = _
        rw [List.getElem?_append_left (List.getElem?_eq_some_iff.1 g1).1]; exact g1
    · rcases get i e he with ⟨_,h⟩ | ⟨hi',rfl⟩
      · obtain ⟨x,hx,e1⟩:=E.open_ i e h h00
        refine ⟨x,?_,e1⟩
        show (k.calls.set n _)[e.fCore.toNat]? = _
        rw [List.getElem?_set,if_neg]
        · exact hx
        · rintro e2
          rw [← e2,hnone] at hx; cases hx
      · refine ⟨⟨k.events.length,env,c,false,0⟩,?_,by rw [hi']⟩
        show (k.calls.set n _)[(n:Int).toNat]? = _
        simp [hlt]
theorem jj.ends {k:KK} (E:jj k) {c:Nat} {x:KC} (hx:k.calls[c]? = some (some x)) (hlate:∀ (i:Nat) e,k.events[i]? = some e→e.fBegin < k.now∧e.fEffect < k.now) (a:eJ) (l:jI):jj (KK.ends k c x a l):=by
  obtain ⟨n,hn,e0,g1,g2,g3,g4,g5⟩:=E.call c x hx
  have hlt:=(List.getElem?_eq_some_iff.1 g1).1
  have hev:(KK.ends k c x a l).events = k.events.set n (KK.evend e0 k.now a l):=by
    unfold KK.ends
    rw [hn]
    simp only [Int.toNat_natCast,List.getD_eq_getElem?_getD,g1,Option.getD_some]
  have get:∀ (i:Nat) e,(k.events.set n (KK.evend e0 k.now a l))[i]? = some e→(i ≠ n∧k.events[i]? = some e)∨(i = n∧e = KK.evend e0 k.now a l):=by
    intro i e he
    rw [List.getElem?_set] at he
    by_cases h:n = i
    · rw [if_pos h,if_pos hlt] at he
      exact .inr ⟨h.symm,by simpa using he.symm⟩
    · rw [if_neg h] at he; exact .inl ⟨fun h'=>h h'.symm,he⟩
  have o0:=E.one n e0 g1
  have l0:=hlate n e0 g1
  have cls:(KK.ends k c x a l).calls = k.calls.set c none:=by simp [KK.ends]
  have cget:∀ (b:Nat) y,(k.calls.set c none)[b]? = some (some y)→b ≠ c∧k.calls[b]? = some (some y):=by
    intro b y hy
    rw [List.getElem?_set] at hy
    by_cases e:c = b
    · rw [if_pos e] at hy
      split at hy
      · cases hy
      · cases hy
    · rw [if_neg e] at hy; exact ⟨fun h=>e h.symm,hy⟩
  have b0:(KK.evend e0 k.now a l).fBegin = e0.fBegin:=rfl
  have b1:(KK.evend e0 k.now a l).fCore = e0.fCore:=rfl
  have b2:(KK.evend e0 k.now a l).fEffect = k.now:=rfl
  have b3:(KK.evend e0 k.now a l).fEnd = k.now:=rfl
  have b4:(KK.evend e0 k.now a l).fEnv = e0.fEnv:=rfl
  refine ⟨fun i e he=>?_,fun i j d e hij hd he=>?_,fun i j d e hd he hp heq=>?_,fun i j d e hij hd he hc=>?_,fun b y hy=>?_,fun i e he h00=>?_⟩
  · rw [hev] at he
    rcases get i e he with ⟨_,h⟩ | ⟨_,rfl⟩
    · exact (E.one i e h).later rfl (Int.le_refl _)
    · exact ⟨o0.c0,o0.c1,o0.v0,o0.v1,o0.b0,o0.b1,.inr ⟨l0.1,rfl,Int.le_refl _⟩⟩
  · rw [hev] at hd he
    have hd':∃ d',k.events[i]? = some d'∧d'.fBegin = d.fBegin:=by
      rcases get i d hd with ⟨_,h⟩ | ⟨rfl,rfl⟩
      · exact ⟨d,h,rfl⟩
      · exact ⟨e0,g1,rfl⟩
    have he':∃ e',k.events[j]? = some e'∧e'.fBegin = e.fBegin:=by
      rcases get j e he with ⟨_,h⟩ | ⟨rfl,rfl⟩
      · exact ⟨e,h,rfl⟩
      · exact ⟨e0,g1,rfl⟩
    obtain ⟨d',h1,h2⟩:=hd'
    obtain ⟨e',h3,h4⟩:=he'
    rw [← h2,← h4]; exact E.up i j d' e' hij h1 h3
  · rw [hev] at hd he
    rcases get i d hd with ⟨_,h⟩ | ⟨rfl,rfl⟩
    · rcases get j e he with ⟨_,h'⟩ | ⟨rfl,rfl⟩
      · exact E.ef i j d e h h' hp heq
      · have:=(hlate i d h).2
        rw [heq,b2] at this; omega
    · rcases get j e he with ⟨_,h'⟩ | ⟨rfl,rfl⟩
      · have:=(hlate j e h').2
        rw [← heq,b2] at this; omega
      · rfl
  · rw [hev] at hd he
    rcases get i d hd with ⟨_,h⟩ | ⟨rfl,rfl⟩
    · rcases get j e he with ⟨_,h'⟩ | ⟨rfl,rfl⟩
      · exact E.co i j d e hij h h' hc
      · exact E.co i j d e0 hij h g1 hc
    · rcases get j e he with ⟨_,h'⟩ | ⟨rfl,rfl⟩
      · have:=E.co i j e0 e hij g1 h' hc
        rcases o0.st with s1 | s1
        · omega
        · rw [g5] at s1; have:=o0.b0; omega
      · omega
  · rw [cls] at hy
    obtain ⟨hbc,hy⟩:=cget b y hy
    obtain ⟨m,h2,e,f1,f2,f3⟩:=E.call b y hy
    refine ⟨m,h2,e,?_,f2,f3⟩
    rw [hev,List.getElem?_set,if_neg]
    · exact f1
    · rintro rfl
      rw [g1] at f1
      cases f1
      omega
  · rw [hev] at he
    rcases get i e he with ⟨hne,h⟩ | ⟨_,rfl⟩
    · obtain ⟨y,hy,e1⟩:=E.open_ i e h h00
      refine ⟨y,?_,e1⟩
      rw [cls,List.getElem?_set,if_neg]
      · exact hy
      · intro e2
        rw [← e2,hx] at hy
        cases hy
        rw [hn] at e1
        exact hne (by omega)
    · have:=o0.b0
      rw [b2] at h00; omega
end Go.Proofs.YtniiiakkdoiaiaaGreatDoor
namespace Go.Proofs.YtniiiakkdoiaiaaGreatDoor
open Go Mb
structure KZ where
  b:Nat
  pp:Ptr
  ts:Sl
  tp:List Ptr
  pm:Ptr
  pe:Ptr
  cs:Sl
  cp:List Ptr
  es:Sl
abbrev kcl (z:KZ) (k:KK):List Value:=[pv z.pp,.int .i64 k.p.s.fEnvs,sv z.ts,pv z.pm,pv z.pe,sv z.cs,sv z.es,.int .i64 k.now]
abbrev mh (z:KZ) (k:KK):List As:=[blk z.b cg (kcl z k),bn z.pp k.p,vQ sA z.ts z.tp,all fC z.tp k.tlbs,jh z.pm k.boxes,eW z.pe k.epochs,vQ ft z.cs z.cp,all iz z.cp k.calls,vE z.es k.events]
structure KZ.Ok (z:KZ) (k:KK):Prop where
  t:z.tp.length = k.tlbs.length
  c:z.cp.length = k.calls.length
def cL (x:Ptr) (k:KK):As:=fun h=>∃ z:KZ,(x = some (z.b,0)∧KZ.Ok z k∧KK.Ok k)∧aG (mh z k) h
theorem us {x:Ptr} {k:KK} {l:List As} {h:Hp} (s0:aG (cL x k::l) h):∃ z:KZ,x = some (z.b,0)∧KZ.Ok z k∧KK.Ok k∧aG (mh z k++l) h:=by
  obtain ⟨z,⟨hx,h1,ok⟩,st⟩:=op_ s0
  exact ⟨z,hx,h1,ok,st⟩
theorem qj {z:KZ} {k:KK} {l:List As} {h:Hp} (h1:KZ.Ok z k) (ok:KK.Ok k) (st:aG (mh z k++l) h):aG (cL (some (z.b,0)) k::l) h :=
  cl_ (m:=fun z:KZ=>mh z k) z ⟨rfl,h1,ok⟩ st
theorem kk_len {k:KK} (ok:KK.Ok k):k.tlbs.length = k.calls.length∧k.boxes.length = k.calls.length∧k.epochs.2.length = k.calls.length∧1 ≤ k.calls.length∧k.calls.length ≤ 8:=by
  have h1:=ok.tl; have h2:=ok.bl; have h3:=ok.el; have h4:=ok.cl; have h5:=fM.1 ok.p.sz
  omega
theorem is_nat {k:KK} {c:Int} (h:KK.is k c = true):∃ n:Nat,c = n∧n < k.calls.length:=by
  have:=of_decide_eq_true (show decide (0 ≤ c∧c < (k.calls.length:Int)) = true from h)
  exact ⟨c.toNat,by omega,by omega⟩
theorem call_nat {k:KK} {n:Nat} (h:n < k.calls.length):KK.call k n = k.calls[n]:=by simp [KK.call,h]
theorem buf_nat {k:KK} {n:Nat} (h:n < k.tlbs.length):KK.buf k n = k.tlbs[n]:=by simp [KK.buf,h]
theorem wk (x:Ptr) (k:KK) (c:Int):Sp Tryz.prog jw [pv x,.int .i64 c] aB [cL x k] (fun r=>pa_ (r = KK.is k c) [cL x k]):=by
  intro h s0
  obtain ⟨z,rfl,zo,ok,st⟩:=us s0
  have hcs:=(ch (j:=6) st rfl).1
  refine sim_kern_Kern_is _ _ ?_
  unfold sh_kern_Kern_is
  refine aX (fun d=>?_) (fun d=>?_)
  · have d':0 ≤ c:=by simpa using d
    refine cD (bk z.cs st (i:=0) rfl rfl rfl ?_)
    exact aW (by rw [hcs,zo.c]; simp [KK.is,d']) s0
  · have d':¬ 0 ≤ c:=by simpa using d
    exact aW (by simp [KK.is]; intro h; exact absurd h d') s0
theorem og (x:Ptr) (k:KK) (c:Int):Sp Tryz.prog fP [pv x,.int .i64 c] aB [cL x k] (fun r=>pa_ (r = KK.busy k c) [cL x k]):=by
  intro h s0
  refine sim_kern_Kern_Busy _ _ ?_
  unfold tZ
  refine bO (wk x k c) (i:=0) rfl s0 fun r h1 hr s1=>?_
  subst hr
  refine aX (fun d=>?_) (fun d=>?_)
  · obtain ⟨n,rfl,hn⟩:=is_nat d
    obtain ⟨z,rfl,zo,ok,st⟩:=us s1
    have hcs:=(ch (j:=6) st rfl).1
    have hn':n < z.cp.length:=by rw [zo.c]; exact hn
    refine cD (bk z.cs st (i:=0) rfl rfl rfl ?_)
    refine dy st (j:=6) rfl (by omega) (by omega) fun q hq=>?_
    refine eu (j:=6) (i:=n) (k:=0) z.cp[n] gO st rfl hq (by simp) (aF hn') (by simp) ?_
    refine aW ?_ s1
    unfold KK.busy
    rw [d,call_nat hn]
    cases hc:k.calls[n] with
    | none =>
      have:=call_none (j:=7) st rfl (aF hn') (by rw [aF hn,hc])
      rw [this]; rfl
    | some y =>
      obtain ⟨b,hp,_⟩:=vV (j:=7) st rfl (aF hn') (by rw [aF hn,hc])
      rw [hp]; rfl
  · exact aW (by unfold KK.busy; rw [d]; rfl) s1
theorem sp_kern_Begin (x:Ptr) (k:KK) (core env:Int) (c:df) (hn:k.now < 2 ^ 38):Sp Tryz.prog kQ [pv x,.int .i64 core,.int .i64 env,.agg c.C.toArray] aB [cL x k] (fun r=>pa_ (r = (KK.begin_ k core env c).1) [cL x (KK.begin_ k core env c).2]):=by
  intro h s0
  refine sim_kern_Kern_Begin _ _ _ _ ?_
  unfold sJ
  have no:(KK.is k core = false∨KK.busy k core = true∨env < 0∨env ≥ k.p.s.fEnvs)→KK.begin_ k core env c = (false,k):=fun hh=>if_pos hh
  refine bO (wk x k core) (i:=0) rfl s0 fun r h1 hr s1=>?_
  subst hr
  refine aX (fun d=>?_) (fun d=>?_)
  · have d':KK.is k core = true:=by simpa using d
    refine bO (og x k core) (i:=0) rfl s1 fun r h2 hr s2=>?_
    subst hr
    refine aX (fun d2=>?_) (fun d2=>?_)
    · have d2':KK.busy k core = false∧¬ env < 0:=by simpa using d2
      obtain ⟨z,rfl,zo,ok,st⟩:=us s2
      refine cD (bk k.p.s.fEnvs st (i:=0) rfl rfl rfl ?_)
      refine aX (fun d3=>?_) (fun d3=>?_)
      · rw [no (.inr (.inr (.inr (by simpa using d3))))]
        exact aW rfl s2
      · have d3':¬ env ≥ k.p.s.fEnvs:=by simpa using d3
        have ok2:=kok_begin ok (by omega) core env c
        have e1:KK.begin_ k core env c = (true,{ k with now:=IntKind.i64.wrap (k.now + 1),events:=k.events++[KK.ev0 core env c (IntKind.i64.wrap (k.now + 1))],calls:=k.calls.set core.toNat (some ⟨k.events.length,env,c,false,0⟩) }):=by
          unfold KK.begin_; rw [if_neg]; simp [d',d2'.1]; omega
        rw [e1] at ok2 ⊢
        obtain ⟨n,rfl,hcn⟩:=is_nat d'
        have hn':n < z.cp.length:=by rw [zo.c]; exact hcn
        have hcs:=(ch (j:=6) st rfl).1
        have hel:=ok.evn
        refine bk k.now st (i:=0) rfl rfl rfl ?_
        refine uB (i:=0) st rfl (Nat.le_of_ble_eq_true rfl) fun h3 s3=>?_
        refine bk (IntKind.i64.wrap (k.now + 1)) s3 (i:=0) rfl rfl rfl ?_
        refine bk z.es s3 (i:=0) rfl rfl rfl ?_
        refine kw (τ:=bj) (i:=8) (enc:=au.C) (val:=fun x=>.agg x.C.toArray) (x:=KK.ev0 n env c (IntKind.i64.wrap (k.now + 1))) qk mv ev_one (fun _=>rfl) (by omega) rfl rfl s3 rfl (by omega) (by omega) fun v h4 s4=>?_
        refine uB (i:=0) s4 rfl (Nat.le_of_ble_eq_true rfl) fun h5 s5=>?_
        refine bk v s5 (i:=0) rfl rfl rfl ?_
        have hvl:=(ch (j:=8) s5 rfl).1
        refine bk z.cs s5 (i:=0) rfl rfl rfl ?_
        have hw:IntKind.i64.wrap ((v.len:Int) - 1) = k.events.length:=by rw [hvl]; rw [bN] <;> simp <;> omega
        rw [hw]
        refine oY s5 fun b68 h6 s6=>?_
        refine dy s6 (j:=7) rfl (by omega) (by omega) fun q hq=>?_
        refine st_v (j:=7) (i:=n) (k:=0) (some (b68,0):Ptr) gO s6 rfl hq (by simp) (aF hn') (by simp) rfl fun h7 s7=>?_
        have s8:=bb [8] s7 rfl
        have s10:=all_but (aF hn') (aF hcn) s8
        have s12:=call_mk (y:=⟨k.events.length,env,c,false,0⟩) (bb [1,0] s10 rfl)
        have s14:=all_in2 (A:=iz) hcn zo.c s12
        refine aW rfl (qj (z:={ z with es:=v,cp:=z.cp.set n (some (b68,0)) }) ⟨zo.t,by simpa using zo.c⟩ ok2 (bb [1,1,1,1,1,1,1,0,0] s14 rfl))
    · rw [no]
      · exact aW rfl s2
      · simp at d2
        cases hb:KK.busy k core with
        | true=>exact .inr (.inl rfl)
        | false=>exact .inr (.inr (.inl (d2 hb)))
  · rw [no (.inl (by simpa using d))]
    exact aW rfl s1
theorem cleans_drop (k:KK) (ls:List jI) (n:Nat) (h:n < ls.length) (b:Buf):KK.cleans k (ls.drop n) b = if KK.stale k ls[n] = true then KK.cleans k (ls.drop (n + 1)) (Tlb.flush b ls[n].fEnv ls[n].fPage).2 else KK.cleans k (ls.drop (n + 1)) b:=by
  rw [List.drop_eq_getElem_cons h,KK.cleans]
theorem sp_kern_clean (z:KZ) (k:KK) (c:Nat) (hc:c < k.calls.length) (zo:KZ.Ok z k) (ok:KK.Ok k) :
    Sp Tryz.prog kP [pv (some (z.b,0)),.int .i64 c] R_ (mh z k) (fun _=>aG (mh z (KK.clean k c))):=by
  intro h s0
  obtain ⟨l1,l2,l3,l4,l5⟩:=kk_len ok
  have hct:c < k.tlbs.length:=by omega
  have hcp:c < z.tp.length:=by rw [zo.t]; exact hct
  have hts:=(ch (j:=2) s0 rfl).1
  refine sim_kern_Kern_clean _ _ ?_
  unfold sI
  refine cD (bk z.ts s0 (i:=0) rfl rfl rfl ?_)
  refine dy s0 (j:=2) rfl (by omega) (by omega) fun q hq=>?_
  refine eu (j:=2) (i:=c) (k:=0) z.tp[c] gO s0 rfl hq (by simp) (aF hcp) (by simp) ?_
  have s1:=jo (aF hcp) (aF hct) (bb [3] s0 rfl)
  refine vS (sp_tlb_Lines z.tp[c] k.tlbs[c]) (i:=0) rfl s1 fun r h2 s2=>?_
  have s3:=vY (aF hcp) (aF hct) zo.t (bb [1,1] s2 rfl)
  have s4:aG (vL r (Tlb.lines k.tlbs[c])::mh z k) h2:=bb [1,1,1,1,0] s3 rfl
  have hll:(Tlb.lines k.tlbs[c]).length = 8:=by
    obtain ⟨_,_,h8,_⟩:=nX s1
    unfold Tlb.lines; simpa using h8
  have hrl:=(ch (j:=0) s4 rfl).1
  have hbuf:KK.buf k c = k.tlbs[c]:=buf_nat hct
  have same:k.tlbs.set c k.tlbs[c] = k.tlbs:=iJ (aF hct)
  refine Lp.intro (fun (i:Int) h=>∃ (n:Nat) (b:Buf),i = n∧n ≤ 8∧KK.cleans k ((Tlb.lines k.tlbs[c]).drop n) b = KK.cleans k (Tlb.lines k.tlbs[c]) k.tlbs[c]∧aG (vL r (Tlb.lines k.tlbs[c])::mh z { k with tlbs:=k.tlbs.set c b }) h) (fun (i:Int) _=>8 - i.toNat) ⟨0,k.tlbs[c],rfl,Nat.zero_le _,rfl,by rw [same]; exact s4⟩ ?_
  rintro i h ⟨n,b,rfl,hn,he,s5⟩
  unfold nq
  refine aX (fun d=>?_) (fun d=>?_)
  · have hlt:n < (Tlb.lines k.tlbs[c]).length:=by rw [hrl] at d; simpa using d
    have hw:IntKind.i64.wrap ((n:Int) + 1) = ((n + 1:Nat):Int):=by rw [bN (by omega) (by omega)]; rfl
    rw [cleans_drop k _ n hlt] at he
    refine dy s5 (j:=0) rfl (by omega) (by omega) fun q2 hq2=>?_
    refine eu (j:=0) (i:=n) (k:=0) (Tlb.lines k.tlbs[c])[n] line_len s5 rfl hq2 (by simp) (aF hlt) (by simp) ?_
    have hcb:c < (k.tlbs.set c b).length:=by simpa using hct
    have hgb:(k.tlbs.set c b)[c] = b:=by simp
    have j1:∀ (o:Bool × Pte) (h:Hp),((decide ((Tlb.lines k.tlbs[c])[n].fEnv ≥ 0)) && (((!o.1) || (o.2.fFrame != (Tlb.lines k.tlbs[c])[n].fFrame)) || (!(aP (Tlb.lines k.tlbs[c])[n].fRights o.2.fRights)))) = KK.stale k (Tlb.lines k.tlbs[c])[n]→aG (vL r (Tlb.lines k.tlbs[c])::mh z { k with tlbs:=k.tlbs.set c b }) h →
        ij c (z.b,0) (fun s' h'=>(∃ (n:Nat) (b:Buf),s' = n∧n ≤ 8∧KK.cleans k ((Tlb.lines k.tlbs[c]).drop n) b = KK.cleans k (Tlb.lines k.tlbs[c]) k.tlbs[c]∧aG (vL r (Tlb.lines k.tlbs[c])::mh z { k with tlbs:=k.tlbs.set c b }) h')∧8 - s'.toNat < 8 - (n:Int).toNat) n (Tlb.lines k.tlbs[c])[n] o h:=by
      intro o h hs s6
      unfold ij
      rw [hs,hw]
      refine aX (fun d2=>?_) (fun d2=>?_)
      · rw [if_pos d2] at he
        refine bk z.ts s6 (i:=1) rfl rfl rfl ?_
        refine dy s6 (j:=3) rfl (by omega) (by omega) fun q3 hq3=>?_
        refine eu (j:=3) (i:=c) (k:=0) z.tp[c] gO s6 rfl hq3 (by simp) (aF hcp) (by simp) ?_
        have s7:=jo (aF hcp) (aF hcb) (bb [4] s6 rfl)
        rw [hgb] at s7
        refine bO (sp_tlb_Flush z.tp[c] b _ _) (i:=0) rfl s7 fun r h8 hr s8=>?_
        have s9:=xr (aF hcp) hcb (by simpa using zo.t) s8
        rw [List.set_set] at s9
        exact ⟨⟨n + 1,_,rfl,by omega,he,bb [1,1,1,1] s9 rfl⟩,by simp; omega⟩
      · rw [if_neg (by rw [d2]; exact Bool.false_ne_true)] at he
        exact ⟨⟨n + 1,b,rfl,by omega,he,s6⟩,by simp; omega⟩
    refine aX (fun d2=>?_) (fun d2=>?_)
    · have d2':0 ≤ (Tlb.lines k.tlbs[c])[n].fEnv:=by simpa using d2
      refine cN [1,1,5,5] (sp_kern_seen z.b z.pp (kcl z k) k.p z.cs z.cp k.calls (Tlb.lines k.tlbs[c])[n].fEnv (Tlb.lines k.tlbs[c])[n].fPage rfl rfl zo.c l5) s5 rfl fun r h6 s6=>?_
      obtain ⟨rfl,s7⟩:=bq.1 s6
      refine j1 _ _ ?_ (bb [4,0,0,2,2,2,2,0,0] s7 rfl)
      unfold KK.stale KK.seen
      rfl
    · have d2':¬ 0 ≤ (Tlb.lines k.tlbs[c])[n].fEnv:=by simpa using d2
      refine j1 _ _ ?_ s5
      unfold KK.stale
      rw [d2,Bool.false_and,Bool.false_and]
  · have:n = 8:=by rw [hrl] at d; simp at d; omega
    subst this
    rw [← hll,List.drop_length] at he
    have e1:KK.clean k c = { k with tlbs:=k.tlbs.set c b }:=by
      unfold KK.clean
      rw [hbuf,← he,Int.toNat_natCast]; rfl
    rw [e1]
    exact bZ (l:=[vL r (Tlb.lines k.tlbs[c])]) s5
theorem sp_kern_ends (z:KZ) (k:KK) (c:Nat) (x:KC) (a:eJ) (l:jI) (hc:c < k.calls.length) (hx:k.calls[c]? = some (some x)) (zo:KZ.Ok z k) (ok:KK.Ok k) :
    Sp Tryz.prog lS [pv (some (z.b,0)),.int .i64 c,.agg a.C.toArray,.agg l.C.toArray] R_ (mh z k) (fun _=>aG [cL (some (z.b,0)) (KK.ends k c x a l)]):=by
  intro h s0
  have hcp:c < z.cp.length:=by rw [zo.c]; exact hc
  have hcs:=(ch (j:=6) s0 rfl).1
  have hes:=(ch (j:=8) s0 rfl).1
  obtain ⟨xb,hp,_⟩:=vV (j:=7) s0 rfl (aF hcp) hx
  have hcpx:z.cp[c]? = some (some (xb,0)):=by rw [aF hcp,hp]
  have hcok:=ok.cs x (List.mem_of_getElem? hx)
  obtain ⟨i,hi⟩:=Int.eq_ofNat_of_zero_le hcok.1
  have hil:i < k.events.length:=by omega
  refine sim_kern_Kern_ends _ _ _ _ ?_
  unfold tV
  refine cD (bk z.es s0 (i:=0) rfl rfl rfl ?_)
  refine bk z.cs s0 (i:=0) rfl rfl rfl ?_
  refine dy s0 (j:=6) rfl (by omega) (by omega) fun q hq=>?_
  refine eu (j:=6) (i:=c) (k:=0) z.cp[c] gO s0 rfl hq (by simp) (aF hcp) (by simp) ?_
  rw [hp]
  refine cD (ld_c1 (j:=7) x.fat s0 rfl hcpx hx rfl rfl ?_)
  rw [hi]
  refine dy s0 (j:=8) rfl (by omega) (by omega) fun q2 hq2=>?_
  refine bk k.now s0 (i:=0) rfl rfl rfl ?_
  refine bk k.now s0 (i:=0) rfl rfl rfl ?_
  refine st_v (j:=8) (i:=i) (k:=8) { k.events[i] with fEffect:=k.now } mv s0 rfl hq2 rfl (aF hil) (by simp) rfl fun h1 s1=>?_
  have e1:(k.events.set i { k.events[i] with fEffect:=k.now })[i]? = some { k.events[i] with fEffect:=k.now }:=by simp [hil]
  refine st_v (j:=8) (i:=i) (k:=9) { k.events[i] with fEffect:=k.now,fEnd:=k.now } mv s1 rfl hq2 rfl e1 (by simp) rfl fun h2 s2=>?_
  simp only [List.set_set] at s2
  have e2:(k.events.set i { k.events[i] with fEffect:=k.now,fEnd:=k.now })[i]? = some { k.events[i] with fEffect:=k.now,fEnd:=k.now }:=by simp [hil]
  refine st_v (j:=8) (i:=i) (k:=10) { k.events[i] with fEffect:=k.now,fEnd:=k.now,fAnswer:=a } mv s2 rfl hq2 rfl e2 (by simp [ab.C]) rfl fun h3 s3=>?_
  simp only [List.set_set] at s3
  have e3:(k.events.set i { k.events[i] with fEffect:=k.now,fEnd:=k.now,fAnswer:=a })[i]? = some { k.events[i] with fEffect:=k.now,fEnd:=k.now,fAnswer:=a }:=by simp [hil]
  refine st_v (j:=8) (i:=i) (k:=12) (KK.evend k.events[i] k.now a l) mv s3 rfl hq2 rfl e3 (by simp [al.C]) rfl fun h4 s4=>?_
  simp only [List.set_set] at s4
  refine bk z.cs s4 (i:=0) rfl rfl rfl ?_
  refine dy s4 (j:=6) rfl (by omega) (by omega) fun q5 hq5=>?_
  refine st_v (j:=6) (i:=c) (k:=0) (none:Ptr) gO s4 rfl hq5 (by simp) (aF hcp) (by simp) rfl fun h5 s5=>?_
  have s7:=all_but hcpx hx (bb [7] s5 rfl)
  have s8:=star_cons (A:=iz none none) (fun _=>rfl) s7
  have s9:=all_in2 (A:=iz) hc zo.c s8
  have hge:k.events.getD i (KK.ev0 0 0 ⟨0,0,0,0,0⟩ 0) = k.events[i]:=by simp [hil]
  have e4:KK.ends k c x a l = { k with events:=k.events.set i (KK.evend k.events[i] k.now a l),calls:=k.calls.set c none }:=by
    unfold KK.ends; rw [hi,Int.toNat_natCast,Int.toNat_natCast,hge]
  have ok2:=kok_ends ok c x a l
  rw [e4] at ok2 ⊢
  refine qj (z:={ z with cp:=z.cp.set c none }) ⟨zo.t,by simpa using zo.c⟩ ok2 (bb [1,1,1,1,1,1,1,0,0] s9 rfl)
end Go.Proofs.YtniiiakkdoiaiaaGreatDoor
namespace Go.Proofs.YtniiiakkdoiaiaaGreatDoor
open Go Mb
theorem five {x:KC}:∀ (i:Nat) (v:Value),(ae.C x.fc)[i]? = some v→x.C[2 + i]? = some v:=by
  intro j v hv
  have:j < 5:=(List.getElem?_eq_some_iff.1 hv).1
  match j,this with
  | 0,_=>exact hv
  | 1,_=>exact hv
  | 2,_=>exact hv
  | 3,_=>exact hv
  | 4,_=>exact hv
theorem sp_kern_access (z:KZ) (k:KK) (c xb:Nat) (x:KC) (hc:c < k.calls.length) (hx:k.calls[c]? = some (some x)) (hp:z.cp[c]? = some (some (xb,0))) (zo:KZ.Ok z k) (ok:KK.Ok k) :
    Sp Tryz.prog ni [pv (some (z.b,0)),.int .i64 c,pv (some (xb,0))] eG (mh z k) (fun r=>pa_ (r = (KK.access k c x).1) (mh z (KK.access k c x).2)):=by
  intro h s0
  obtain ⟨l1,l2,l3,l4,l5⟩:=kk_len ok
  have hct:c < k.tlbs.length:=by omega
  have hcp:c < z.tp.length:=by rw [zo.t]; exact hct
  have hbuf:KK.buf k c = k.tlbs[c]:=buf_nat hct
  refine sim_kern_Kern_access _ _ _ ?_
  unfold ry
  refine cD (cD ?_)
  refine ld_c (j:=7) x.fc s0 rfl hp hx five ?_
  refine bk k.p.s.fEnvs s0 (i:=0) rfl rfl rfl ?_
  refine tA (jf x.fc _) s0 fun r h1 hr s1=>?_
  subst hr
  refine aX (fun d=>?_) (fun d=>?_)
  · have e1:KK.access k c x = ((⟨Word.check x.fc k.p.s.fEnvs,0⟩,ii),k):=if_pos (by simpa using d)
    rw [e1]; exact aW rfl s1
  · have d':¬ Word.check x.fc k.p.s.fEnvs ≠ 0:=by simpa using d
    refine ld_c1 (j:=7) x.fc.e1 s1 rfl hp hx rfl rfl ?_
    refine mb oa s1 fun r37 h2 s2=>?_
    refine ld_c1 (j:=8) x.fenv s2 rfl hp hx rfl rfl ?_
    refine cN [1,1,5,5] (sp_kern_seen z.b z.pp (kcl z k) k.p z.cs z.cp k.calls x.fenv (IntKind.i64.wrap x.fc.e1) rfl rfl zo.c l5) s2 rfl fun r h3 s3=>?_
    obtain ⟨hr,s4⟩:=bq.1 s3
    have hr':r = KK.seen k x.fenv (IntKind.i64.wrap x.fc.e1):=hr
    subst hr'
    have s5:aG (cU r37 (List.replicate 8 da)::mh z k) h3:=bb [4,0,0,2,2,2,2,0,0] s4 rfl
    have j1:∀ h,aG (cU r37 (KK.tabFor k x.fenv (IntKind.i64.wrap x.fc.e1))::mh z k) h→gG c (fun r=>pa_ (r = (KK.access k c x).1) (mh z (KK.access k c x).2)) (xb,0) (z.b,0) x.fc.e1 r37 () h:=by
      intro h s6
      have hts:=(ch (j:=3) s6 rfl).1
      unfold gG
      refine ld_c1 (j:=8) x.fc.e0 s6 rfl hp hx rfl rfl ?_
      refine bk z.ts s6 (i:=1) rfl rfl rfl ?_
      refine dy s6 (j:=3) rfl (by omega) (by omega) fun q hq=>?_
      refine eu (j:=3) (i:=c) (k:=0) z.tp[c] gO s6 rfl hq (by simp) (aF hcp) (by simp) ?_
      refine ld_c1 (j:=8) x.fenv s6 rfl hp hx rfl rfl ?_
      have s7:=jo (aF hcp) (aF hct) (bb [4] s6 rfl)
      refine cN [0,1] (sp_user_Walk z.tp[c] r37 k.tlbs[c] (KK.tabFor k x.fenv (IntKind.i64.wrap x.fc.e1)) x.fenv (IntKind.i64.wrap x.fc.e1) (IntKind.i64.wrap x.fc.e0)) s7 rfl fun r h8 s8=>?_
      obtain ⟨hr,s9⟩:=bq.1 s8
      have hr':r = (KK.accWalk k c x).1:=by rw [hr]; unfold KK.accWalk; rw [hbuf]
      have hw:(User.walk k.tlbs[c] (KK.tabFor k x.fenv (IntKind.i64.wrap x.fc.e1)) x.fenv (IntKind.i64.wrap x.fc.e1) (IntKind.i64.wrap x.fc.e0)).2 = (KK.accWalk k c x).2:=by unfold KK.accWalk; rw [hbuf]
      rw [hw] at s9
      subst hr'
      have s10:=xr (aF hcp) hct zo.t (bb [0,1] s9 rfl)
      refine aX (fun d2=>?_) (fun d2=>?_)
      · have e1:KK.access k c x = ((⟨7,0⟩,ii),{ k with tlbs:=k.tlbs.set c (KK.accWalk k c x).2 }):=by
          unfold KK.access; rw [if_neg d',if_pos (by simpa using d2),Int.toNat_natCast]
        rw [e1]
        exact aW rfl (bZ (l:=[cU r37 _]) (bb [1,1,1,1,0] s10 rfl))
      · have e1:KK.access k c x = (((PK.touch k.p (KK.accWalk k c x).1.1.fFrame x.fc).1.1,(KK.accWalk k c x).1.1),{ k with tlbs:=k.tlbs.set c (KK.accWalk k c x).2,p:=(PK.touch k.p (KK.accWalk k c x).1.1.fFrame x.fc).2 }):=by
          unfold KK.access; rw [if_neg d',if_neg (by simpa using d2),Int.toNat_natCast]
        rw [e1]
        refine bk z.pp s10 (i:=2) rfl rfl rfl ?_
        refine ld_c (j:=8) x.fc s10 rfl hp hx five ?_
        refine bO (od z.pp k.p _ x.fc) (i:=3) rfl s10 fun r h11 hr s11=>?_
        subst hr
        have hs:=touch_s k.p (KK.accWalk k c x).1.1.fFrame x.fc
        refine aW rfl ?_
        have s12:=bZ (l:=[cU r37 _]) (bb [1,1,1,1,0] s11 rfl)
        have ek:kcl z { k with tlbs:=k.tlbs.set c (KK.accWalk k c x).2,p:=(PK.touch k.p (KK.accWalk k c x).1.1.fFrame x.fc).2 } = kcl z k:=by
          show [pv z.pp,Value.int .i64 (PK.touch k.p (KK.accWalk k c x).1.1.fFrame x.fc).2.s.fEnvs,_,_,_,_,_,_] = _
          rw [hs]
        show aG (blk z.b cg (kcl z _)::_) _
        rw [ek]
        exact s12
    refine aX (fun d2=>?_) (fun d2=>?_)
    · refine bO (ki r37 _ (IntKind.i64.wrap x.fc.e1) (KK.seen k x.fenv (IntKind.i64.wrap x.fc.e1)).1) (i:=0) rfl s5 fun r h6 hr s6=>j1 _ ?_
      have e1:KK.tabFor k x.fenv (IntKind.i64.wrap x.fc.e1) = (Table.insert (List.replicate 8 da) (IntKind.i64.wrap x.fc.e1) (KK.seen k x.fenv (IntKind.i64.wrap x.fc.e1)).1).2:=if_pos d2
      rw [e1]; exact s6
    · have e1:KK.tabFor k x.fenv (IntKind.i64.wrap x.fc.e1) = List.replicate 8 da:=if_neg (by rw [d2]; exact Bool.false_ne_true)
      exact j1 _ (by rw [e1]; exact s5)
theorem access_calls (k:KK) (c:Int) (x:KC):(KK.access k c x).2.calls = k.calls:=by
  unfold KK.access
  repeat' split
  all_goals rfl
theorem access_tlen (k:KK) (c:Int) (x:KC):(KK.access k c x).2.tlbs.length = k.tlbs.length:=by
  unfold KK.access
  repeat' split
  all_goals simp
theorem kz_tlbs {z:KZ} {k k':KK} (zo:KZ.Ok z k) (h1:k'.tlbs.length = k.tlbs.length) (h2:k'.calls.length = k.calls.length):KZ.Ok z k':=⟨by rw [h1]; exact zo.t,by rw [h2]; exact zo.c⟩
theorem sp_kern_Step (x:Ptr) (k:KK) (c:Int) (hn:k.now < 2 ^ 37):Sp Tryz.prog lT [pv x,.int .i64 c] aB [cL x k] (fun r=>pa_ (r = (KK.step k c).1) [cL x (KK.step k c).2]):=by
  intro h s0
  refine sim_kern_Kern_Step _ _ ?_
  unfold tW
  refine bO (og x k c) (i:=0) rfl s0 fun r h1 hr s1=>?_
  subst hr
  refine aX (fun d=>?_) (fun d=>?_)
  · have e1:KK.step k c = (false,k):=if_pos (by simpa using d)
    rw [e1]; exact aW rfl s1
  · have d':KK.busy k c = true:=by simpa using d
    obtain ⟨hi,y,hy⟩:=busy_is d'
    have e1:KK.step k c = (true,KK.work (KK.tick k) c y):=by unfold KK.step; rw [if_neg (by simp [d']),hy]
    rw [e1]
    obtain ⟨z,rfl,zo,ok,st⟩:=us s1
    have okt:=kok_tick ok (by omega)
    obtain ⟨n,rfl,hnc⟩:=is_nat hi
    obtain ⟨l1,l2,l3,l4,l5⟩:=kk_len ok
    have hnp:n < z.cp.length:=by rw [zo.c]; exact hnc
    have hcs:=(ch (j:=6) st rfl).1
    have hxn:k.calls[n]? = some (some y):=by rw [aF hnc,← call_nat hnc,hy]
    have hep:=ok.epn
    have hwn:=wrapN ok.n0 (show k.now < 2 ^ 40 by omega)
    refine cD (bk k.now st (i:=0) rfl rfl rfl ?_)
    refine uB (i:=0) st rfl (Nat.le_of_ble_eq_true rfl) fun h2 s2=>?_
    have s3:aG (mh z (KK.tick k)) h2:=s2
    have zot:KZ.Ok z (KK.tick k):=⟨zo.t,zo.c⟩
    have hxt:(KK.tick k).calls[n]? = some (some y):=hxn
    have hyt:KK.call (KK.tick k) n = some y:=hy
    have hit:KK.is (KK.tick k) n = true:=hi
    have hept:((KK.tick k).epochs.1.length:Int) + 1 ≤ (KK.tick k).now:=by show _ ≤ IntKind.i64.wrap (k.now + 1); rw [hwn]; simp only [KK.tick]; omega
    have hnt:(KK.tick k).now ≤ 2 ^ 37:=by show IntKind.i64.wrap (k.now + 1) ≤ _; rw [hwn]; omega
    have okw:=kok_work okt hept hyt hit
    have hnct:n < (KK.tick k).calls.length:=hnc
    generalize KK.tick k = kt at *
    obtain ⟨xb,hp,_⟩:=vV (j:=7) s3 rfl (aF hnp) hxt
    have hpx:z.cp[n]? = some (some (xb,0)):=by rw [aF hnp,hp]
    refine bk z.cs s3 (i:=0) rfl rfl rfl ?_
    refine dy s3 (j:=6) rfl (by omega) (by omega) fun q hq=>?_
    refine eu (j:=6) (i:=n) (k:=0) z.cp[n] gO s3 rfl hq (by simp) (aF hnp) (by simp) ?_
    rw [hp]
    refine cD (ld_c (j:=7) y.fc s3 rfl hpx hxt five ?_)
    refine aX (fun d2=>?_) (fun d2=>?_)
    · have ew:KK.work kt n y = KK.ends (KK.access kt n y).2 n y (KK.access kt n y).1.1 (KK.access kt n y).1.2:=if_pos d2
      rw [ew]
      have oka:=kok_access okt n y
      have hca:(KK.access kt n y).2.calls = kt.calls:=access_calls _ _ _
      have hta:(KK.access kt n y).2.tlbs.length = kt.tlbs.length:=access_tlen _ _ _
      refine cN [0,0,0,0,0,0,0,0,0] (sp_kern_access z kt n xb y hnct hxt hpx zot okt) s3 rfl fun r h4 s4=>?_
      obtain ⟨hr,s5⟩:=bq.1 s4
      subst hr
      refine cN [0,0,0,0,0,0,0,0,0] (sp_kern_ends z (KK.access kt n y).2 n y (KK.access kt n y).1.1 (KK.access kt n y).1.2 (by rw [hca]; exact hnct) (by rw [hca]; exact hxt) (kz_tlbs zot hta (by rw [hca])) oka) s5 rfl fun r h6 s6=>?_
      exact aW rfl (dB s6)
    · have d2':¬ bJ (az y.fc).1 = true:=by rw [d2]; exact Bool.false_ne_true
      have j2:∀ b:Bool,(y.ftold = false∧KK.takes kt.p y = true) = False→b = (y.ftold && !(Epochs.done kt.epochs y.fepoch))→∀ h,aG (mh z kt) h→iV n (fun r=>pa_ (r = true) [cL (some (z.b,0)) (KK.work kt n y)]) (z.b,0) (xb,0) b h:=by
        intro b hno hb h s4
        have ew:KK.work kt n y = (if y.ftold = true∧Epochs.done kt.epochs y.fepoch = false then kt else if (PK.do_ kt.p y.fenv y.fc).1.2 = true then KK.ends { kt with p:=(PK.do_ kt.p y.fenv y.fc).2 } n y (PK.do_ kt.p y.fenv y.fc).1.1 ii else { kt with p:=(PK.do_ kt.p y.fenv y.fc).2 }):=by
          unfold KK.work
          rw [if_neg d2',if_neg (by rw [hno]; exact not_false)]
        rw [ew] at okw ⊢
        unfold iV
        refine aX (fun d4=>?_) (fun d4=>?_)
        · have d4':y.ftold = true∧Epochs.done kt.epochs y.fepoch = false:=by rw [hb] at d4; simpa using d4
          rw [if_pos d4']
          exact aW rfl (qj zot okt s4)
        · have d4':¬ (y.ftold = true∧Epochs.done kt.epochs y.fepoch = false):=by rw [hb] at d4; simpa using d4
          rw [if_neg d4'] at okw ⊢
          refine bk z.pp s4 (i:=0) rfl rfl rfl ?_
          refine ld_c1 (j:=7) y.fenv s4 rfl hpx hxt rfl rfl ?_
          refine ld_c (j:=7) y.fc s4 rfl hpx hxt five ?_
          refine bO (jK z.pp kt.p y.fenv y.fc) (i:=1) rfl s4 fun r h5 hr s5=>?_
          subst hr
          have hs:=do_s kt.p y.fenv y.fc
          have s6:aG (mh z { kt with p:=(PK.do_ kt.p y.fenv y.fc).2 }) h5:=by
            show aG (blk z.b cg [pv z.pp,Value.int .i64 (PK.do_ kt.p y.fenv y.fc).2.s.fEnvs,_,_,_,_,_,_]::_) _
            rw [hs]; exact s5
          have okp:=kok_p okt (ok_do okt.p y.fenv y.fc) hs
          refine aX (fun d5=>?_) (fun d5=>?_)
          · rw [if_pos d5]
            refine cN [0,0,0,0,0,0,0,0,0] (sp_kern_ends z { kt with p:=(PK.do_ kt.p y.fenv y.fc).2 } n y (PK.do_ kt.p y.fenv y.fc).1.1 ii hnct hxt ⟨zot.t,zot.c⟩ okp) s6 rfl fun r h7 s7=>?_
            exact aW rfl (dB s7)
          · rw [if_neg (by rw [d5]; exact Bool.false_ne_true)]
            exact aW rfl (qj (k:={ kt with p:=_ }) ⟨zot.t,zot.c⟩ okp s6)
      refine ld_c1 (j:=7) y.ftold s3 rfl hpx hxt rfl rfl ?_
      refine aX (fun d3=>?_) (fun d3=>?_)
      · have d3':y.ftold = false:=by simpa using d3
        obtain ⟨xb',hp',s4⟩:=call_out hpx hxt (bb [7] s3 rfl)
        cases hp'
        refine cN [2,0,1] (sp_kern_takes z.b xb z.pp (kcl z kt) kt.p y rfl rfl) s4 rfl fun r h5 s5=>?_
        obtain ⟨hr,s6⟩:=bq.1 s5
        subst hr
        unfold iW
        refine aX (fun d4=>?_) (fun d4=>?_)
        · have ew:KK.work kt n y = KK.send (KK.clean (KK.tell kt n y) n) n y:=by unfold KK.work; rw [if_neg d2',if_pos ⟨d3',d4⟩]
          rw [ew] at okw ⊢
          refine uB (i:=1) s6 rfl (Nat.le_of_ble_eq_true rfl) fun h7 s7=>?_
          have s8:=call_in (y:={ y with ftold:=true }) hpx hnct zot.c (bb [1,2] s7 rfl)
          have s9:aG (mh z (KK.tell kt n y)) h7:=bb [1,1,1,1,1,1,1,0,0] s8 rfl
          have okl:KK.Ok (KK.tell kt n y):=kok_call okt n hyt (y:={ y with ftold:=true }) rfl rfl
          have hll:n < (KK.tell kt n y).calls.length:=by simpa [KK.tell] using hnct
          have zol:KZ.Ok z (KK.tell kt n y):=⟨zot.t,by simpa [KK.tell] using zot.c⟩
          refine cN [0,0,0,0,0,0,0,0,0] (sp_kern_clean z (KK.tell kt n y) n hll zol okl) s9 rfl fun r h10 s10=>?_
          have s11:=dB s10
          have hcc:(KK.clean (KK.tell kt n y) n).calls[n]? = some (some { y with ftold:=true }):=by simp [KK.clean,KK.tell,hnct]
          have okc:=kok_clean okl n
          have zoc:KZ.Ok z (KK.clean (KK.tell kt n y) n):=⟨by simpa [KK.clean] using zol.t,zol.c⟩
          have hepc:((KK.clean (KK.tell kt n y) n).epochs.1.length:Int) + 1 ≤ kt.now:=hept
          have hbx:=okc.bx
          have htl:(KK.clean (KK.tell kt n y) n).calls = kt.calls.set n (some { y with ftold:=true }):=rfl
          have hnow:(KK.clean (KK.tell kt n y) n).now = kt.now:=rfl
          generalize KK.clean (KK.tell kt n y) n = kc at *
          have hncc:n < kc.calls.length:=by rw [htl]; simpa using hnct
          refine bk z.pe s11 (i:=0) rfl rfl rfl ?_
          refine bO (sp_epoch_Begin z.pe kc.epochs n (by omega)) (i:=5) rfl s11 fun r h12 hr s12=>?_
          subst hr
          obtain ⟨xb',hp',s13⟩:=call_out hpx hcc (bb [7] s12 rfl)
          cases hp'
          refine uB (i:=0) s13 rfl (Nat.le_of_ble_eq_true rfl) fun h14 s14=>?_
          have s15:=call_in (y:={ y with ftold:=true,fepoch:=(Epochs.begin_ kc.epochs n).1.1 }) hpx hncc zoc.c s14
          refine bk z.pm s15 (i:=1) rfl rfl rfl ?_
          have hxe:(kc.calls.set n (some { y with ftold:=true,fepoch:=(Epochs.begin_ kc.epochs n).1.1 }))[n]? = some (some { y with ftold:=true,fepoch:=(Epochs.begin_ kc.epochs n).1.1 }):=by simp [hncc]
          refine ld_c1 (j:=0) (Epochs.begin_ kc.epochs n).1.1 s15 rfl hpx hxe rfl rfl ?_
          have he:Epochs.is kc.epochs n = true:=by
            unfold Epochs.is
            have:=okc.el
            have:=okc.cl
            exact decide_eq_true (by omega)
          have eb:(Epochs.begin_ kc.epochs n).1.1 = (kc.epochs.1.length:Int) + 1:=by unfold Epochs.begin_; rw [if_pos he]
          refine bO (sp_mail_All z.pm kc.boxes n (Epochs.begin_ kc.epochs n).1.1 ?_) (i:=5) rfl s15 fun r h16 hr s16=>?_
          · intro l hl
            rw [eb]
            exact box_fit (hbx l hl) (by omega)
          · refine aW rfl (qj (k:=KK.send kc n y) ⟨zoc.t,by simpa [KK.send] using zoc.c⟩ okw (bb [1,1,1,1,1,1,1,0,0] s16 rfl))
        · have hno:(y.ftold = false∧KK.takes kt.p y = true) = False:=by simp [d4]
          have s8:=call_in (y:=y) hpx hnct zot.c (bb [1,2] s6 rfl)
          rw [iJ hxt] at s8
          have s9:aG (mh z kt) h5:=bb [1,1,1,1,1,1,1,0,0] s8 rfl
          refine ld_c1 (j:=7) y.ftold s9 rfl hpx hxt rfl rfl ?_
          refine dr d3' ?_
          exact j2 false hno (by rw [d3']; rfl) _ s9
      · have d3':y.ftold = true:=by simpa using d3
        unfold iW
        refine dr rfl ?_
        refine ld_c1 (j:=7) y.ftold s3 rfl hpx hxt rfl rfl ?_
        refine dI d3' ?_
        refine bk z.pe s3 (i:=0) rfl rfl rfl ?_
        refine ld_c1 (j:=7) y.fepoch s3 rfl hpx hxt rfl rfl ?_
        refine bO (sp_epoch_Done z.pe kt.epochs y.fepoch) (i:=5) rfl s3 fun r h4 hr s4=>?_
        subst hr
        exact j2 _ (by simp [d3']) (by rw [d3']; rfl) _ s4
theorem sp_kern_Post (x:Ptr) (k:KK) (c:Int) (hn:k.now < 2 ^ 37):Sp Tryz.prog pU [pv x,.int .i64 c] aB [cL x k] (fun r=>pa_ (r = (KK.post k c).1) [cL x (KK.post k c).2]):=by
  intro h s0
  refine sim_kern_Kern_Post _ _ ?_
  unfold tX
  refine bO (wk x k c) (i:=0) rfl s0 fun r h1 hr s1=>?_
  subst hr
  refine aX (fun d=>?_) (fun d=>?_)
  · have e1:KK.post k c = (false,k):=if_pos (by simpa using d)
    rw [e1]; exact aW rfl s1
  · have d':KK.is k c = true:=by simpa using d
    obtain ⟨z,rfl,zo,ok,st⟩:=us s1
    have okp:=kok_post ok (by omega) c
    obtain ⟨n,rfl,hnc⟩:=is_nat d'
    refine cD (bk z.pm st (i:=0) rfl rfl rfl ?_)
    refine bO (sp_mail_Take z.pm k.boxes n) (i:=4) rfl st fun r h2 hr s2=>?_
    subst hr
    refine aX (fun d2=>?_) (fun d2=>?_)
    · have d2':(Mail.take k.boxes n).1.2 = false:=by simpa using d2
      have e1:KK.post k n = (false,k):=by unfold KK.post; rw [if_neg (by simp [d']),if_pos d2']
      have e2:(Mail.take k.boxes n).2 = k.boxes:=by
        unfold Mail.take at d2' ⊢; split
        · rfl
        · rename_i hh; rw [if_neg hh] at d2'; cases d2'
      rw [e1]
      rw [e2] at s2
      exact aW rfl (qj zo ok s2)
    · have e1:KK.post k n = (true,{ KK.clean { KK.tick k with boxes:=(Mail.take k.boxes n).2 } n with epochs:=(Epochs.ack k.epochs n (Mail.take k.boxes n).1.1).2 }):=by
        unfold KK.post; rw [if_neg (by simp [d']),if_neg (by simpa using d2)]
      rw [e1] at okp ⊢
      refine bk k.now s2 (i:=0) rfl rfl rfl ?_
      refine uB (i:=0) s2 rfl (Nat.le_of_ble_eq_true rfl) fun h3 s3=>?_
      have s4:aG (mh z { KK.tick k with boxes:=(Mail.take k.boxes n).2 }) h3:=s3
      have okt:=kok_tick ok (by omega)
      have hbl:(Mail.take k.boxes n).2.length = k.boxes.length:=by unfold Mail.take; split <;> simp
      have hb:∀ l ∈ (Mail.take k.boxes n).2,mi k.epochs.1.length l:=by
        unfold Mail.take; split
        · exact ok.bx
        · exact boxes_set ok.bx _ (box_drop (box_of ok.bx n))
      have ok2:KK.Ok { KK.tick k with boxes:=(Mail.take k.boxes n).2 }:=⟨okt.p,okt.tl,by simp only [hbl]; exact ok.bl,okt.el,okt.cl,okt.cs,okt.n0,okt.evn,okt.epn,hb⟩
      refine cN [0,0,0,0,0,0,0,0,0] (sp_kern_clean z { KK.tick k with boxes:=(Mail.take k.boxes n).2 } n hnc ⟨zo.t,zo.c⟩ ok2) s4 rfl fun r h5 s5=>?_
      have s6:=dB s5
      refine bk z.pe s6 (i:=0) rfl rfl rfl ?_
      refine bO (sp_epoch_Ack z.pe k.epochs n _) (i:=5) rfl s6 fun r h7 hr s7=>?_
      refine aW rfl (qj (z:=z) ⟨?_,zo.c⟩ okp s7)
      simpa [KK.clean,KK.tick] using zo.t
theorem sp_kern_Mail (x:Ptr) (k:KK) (c:Int):Sp Tryz.prog pV [pv x,.int .i64 c] eA [cL x k] (fun r=>pa_ (r = KK.mail k c) [cL x k]):=by
  intro h s0
  refine sim_kern_Kern_Mail _ _ ?_
  unfold tY
  refine bO (wk x k c) (i:=0) rfl s0 fun r h1 hr s1=>?_
  subst hr
  refine aX (fun d=>?_) (fun d=>?_)
  · exact aW (by unfold KK.mail; rw [if_neg (by simpa using d)]) s1
  · obtain ⟨z,rfl,zo,ok,st⟩:=us s1
    refine cD (bk z.pm st (i:=0) rfl rfl rfl ?_)
    refine bO (sp_mail_Waits z.pm k.boxes c) (i:=4) rfl st fun r h2 hr s2=>?_
    exact aW (by unfold KK.mail; rw [if_pos (by simpa using d),hr]) (qj zo ok s2)
theorem sp_slices_CloneE (s:Sl) (xs:List bj) (hb:xs.length < 2 ^ 38):Sp Tryz.prog eO [sv s] dQ [vE s xs] (fun r=>aG [vE r xs,vE s xs]):=by
  intro h s0
  refine mj _ ?_
  unfold gS
  refine aX (fun k=>?_) (fun k=>?_)
  · have hn:xs = []:=by
      obtain ⟨_,⟨e1,e2,e3⟩,_⟩:=dV (i:=0) rfl s0
      rcases e3 with e3 | ⟨b,pre,rest,U,fr,h4,_⟩
      · exact List.eq_nil_of_length_eq_zero (by omega)
      · rw [h4] at k; cases k
    subst hn
    exact fI s0
  · refine fx (τ:=bj) [] (val:=fun x=>.agg x.C.toArray) (enc:=au.C) qk mv (fun _=>rfl) s0 rfl rfl (by simp) fun y h' s1=>?_
    refine tv (τ:=bj) (i:=0) (j:=1) (enc:=au.C) (xs:=[]) (ys:=xs) qk qk.sl mv ev_one s1 rfl rfl (by omega) (by simp; omega) (by simp; omega) fun v h2 s2=>?_
    exact s2
theorem oe (x:Ptr) (k:KK) (hb:k.now < 2 ^ 38):Sp Tryz.prog eP [pv x] dQ [cL x k] (fun r=>aG [vE r k.events,cL x k]):=by
  intro h s0
  obtain ⟨z,rfl,zo,ok,st⟩:=us s0
  have:=ok.evn
  refine sim_kern_Kern_Events _ ?_
  unfold rz
  refine dr rfl (cD (bk z.es st (i:=0) rfl rfl rfl ?_))
  refine vS (sp_slices_CloneE z.es k.events (by omega)) (i:=8) rfl st fun r h1 s1=>?_
  exact star_tail s1 fun h2 s2=>qj zo ok s2
end Go.Proofs.YtniiiakkdoiaiaaGreatDoor
namespace Go.Proofs.YtniiiakkdoiaiaaGreatDoor
open Go Mb
set_option linter.unusedVariables false
def eV (a0:Ptr) (Rec7:(Bool × Int)→Hp→Prop) (s6:Bool × Int) (s11:Unit):Hp→Prop:=cl Tryz.prog fP [(pv a0),(.int .i64 s6.2)] aB fun r37=>cl Tryz.prog fP [(pv a0),(.int .i64 s6.2)] aB fun r43=>br r43 ( cl Tryz.prog lT [(pv a0),(.int .i64 s6.2)] aB fun r46=>Rec7 ((r37 || s6.1),(IntKind.i64.wrap (s6.2 + 1)))) ( Rec7 ((r37 || s6.1),(IntKind.i64.wrap (s6.2 + 1))))
def gn (a0:Ptr) (Rec7:(Bool × Int)→Hp→Prop) (s6:Bool × Int) (Rec20:Int→Hp→Prop) (s19:Int):Hp→Prop:=br (decide (s19 < 5000)) ( cl Tryz.prog pV [(pv a0),(.int .i64 s6.2)] eA fun r27=>br (decide (r27 > 0)) ( cl Tryz.prog pU [(pv a0),(.int .i64 s6.2)] aB fun r34=>Rec20 (IntKind.i64.wrap (s19 + 1))) ( eV a0 Rec7 s6 ())) ( eV a0 Rec7 s6 ())
def gq (a0:Ptr) (a1:Int) (K:Bool→Hp→Prop) (Rec2:Int→Hp→Prop) (s1:Int) (Rec7:(Bool × Int)→Hp→Prop) (s6:Bool × Int):Hp→Prop:=br (decide (s6.2 < a1)) ( Lp (gn a0 Rec7 s6) 0) ( br (!s6.1) ( K true) ( Rec2 (IntKind.i64.wrap (s1 + 1))))
def gm (a0:Ptr) (a1:Int) (K:Bool→Hp→Prop) (Rec34:Int→Hp→Prop) (s33:Int):Hp→Prop:=br (decide (s33 < a1)) ( cl Tryz.prog fP [(pv a0),(.int .i64 s33)] aB fun r56=>br r56 ( K false) ( Rec34 (IntKind.i64.wrap (s33 + 1)))) ( K true)
def jz (a0:Ptr) (a1:Int) (a2:Int) (K:Bool→Hp→Prop) (Rec2:Int→Hp→Prop) (s1:Int):Hp→Prop:=br (decide (s1 < a2)) ( Lp (gq a0 a1 K Rec2 s1) (false,0)) ( Lp (gm a0 a1 K) 0)
def nD (a0:Ptr) (a1:Int) (a2:Int) (K:Bool→Hp→Prop):Hp→Prop:=Lp (jz a0 a1 a2 K) 0
theorem uG (a0:Ptr) (a1:Int) (a2:Int) {K:Bool→Hp→Prop} {h:Hp} (H:nD a0 a1 a2 K h):Ct Tryz.prog fu #[(pv a0),(.int .i64 a1),(.int .i64 a2)] h fun v h'=>∃ r,v = aB r∧K r h':=aw [(pv a0),(.int .i64 a1),(.int .i64 a2)] Tryz.func39 c c c fun _=>M<|O c<|ak<|M<|O c<|ax<|bD (step:=jz a0 a1 a2 K) (fun s1=>[(0,(pv a0)),(1,(.int .i64 a1)),(2,(.int .i64 a2)),(7,(.int .i64 s1))]) (fun s1=>[]) H (.cons c<|.cons c<|.cons c<|.cons c<|.nil _) .slnil fun Rec2 s1 _ H3=>ak<|M<|J c<|J c<|p (ct c c)<|ac<|av c H3 (fun k4 H5=>an<|ak<|ax<|M<|O c<|ak<|M<|O c<|ax<|bD (step:=gq a0 a1 K Rec2 s1) (fun s6=>[(0,(pv a0)),(1,(.int .i64 a1)),(2,(.int .i64 a2)),(7,(.int .i64 s1)),(8,(.bool s6.1)),(9,(.int .i64 s6.2))]) (fun s6=>[]) H5 (.cons c<|.cons c<|.cons c<|.cons c<|.cons c<|.cons c<|.nil _) .slnil fun Rec7 s6 _ H8=>ak<|M<|J c<|J c<|p (ct c c)<|ac<|av c H8 (fun k9 H10=>an<|ak<|ax<|eo (eV a0 Rec7 s6) (fun s11=>[(0,(pv a0)),(1,(.int .i64 a1)),(2,(.int .i64 a2)),(7,(.int .i64 s1)),(8,(.bool s6.1)),(9,(.int .i64 s6.2))]) (fun s11=>[]) (M<|O c<|ax<|bD (step:=gn a0 Rec7 s6) (fun s19=>[(0,(pv a0)),(1,(.int .i64 a1)),(2,(.int .i64 a2)),(7,(.int .i64 s1)),(8,(.bool s6.1)),(9,(.int .i64 s6.2)),(10,(.int .i64 s19))]) (fun s19=>[]) H10 (.cons c<|.cons c<|.cons c<|.cons c<|.cons c<|.cons c<|.cons c<|.nil _) .slnil fun Rec20 s19 _ H21=>ak<|M<|J c<|p (ct c c)<|J c<|V c c (ay _) (fun g22=>wv<|ah c)<|V c c (ay _) (fun g23=>wv<|ah c)<|bT H21 (fun k25 H26=>F (D k25)<|gj H26 en_45 (aS (aD c k25)<|aS (aD c k25) bS) c fun r27 _ H27=>F (D k25)<|R (qr c c)<|p (aT c k25 c)<|ac<|av c H27 (fun k28 H29=>an<|ak<|ax<|ao<|J c<|J c<|aa<|Z H29 en_31 fun r34 _ H30=>ac<|ao<|J c<|p (bp c c)<|O c<|cK (IntKind.i64.wrap (s19 + 1)) H30 (.cons c<|.cons c<|.cons c<|.cons c<|.cons c<|.cons c<|.cons c<|.nil _) .slnil) fun k28 H29=>bi<|cE () H29 (.cons c<|.cons c<|.cons c<|.cons c<|.cons c<|.cons c<|.nil _) .slnil) fun k25 H26=>W (aQ k25)<|W (aQ k25)<|p (aq c k25 c)<|ac<|ev_no c c<|bi<|cE () H26 (.cons c<|.cons c<|.cons c<|.cons c<|.cons c<|.cons c<|.nil _) .slnil) fun s11 _ H12=>M<|J c<|J c<|aa<|Z H12 en_34 fun r37 _ H13=>J c<|V c c (aM _) (fun g14=>wv<|ah c)<|p (dp c c)<|O c<|M<|J c<|J c<|aa<|Z H13 en_34 fun r43 _ H15=>ac<|av c H15 (fun k16 H17=>ao<|J c<|J c<|aa<|Z H17 en_30 fun r46 _ H18=>ac<|ao<|J c<|p (bp c c)<|O c<|cK ((r37 || s6.1),(IntKind.i64.wrap (s6.2 + 1))) H18 (.cons c<|.cons c<|.cons c<|.cons c<|.cons c<|.cons c<|.nil _) .slnil) fun k16 H17=>an<|ao<|J c<|p (bp c c)<|O c<|cK ((r37 || s6.1),(IntKind.i64.wrap (s6.2 + 1))) H17 (.cons c<|.cons c<|.cons c<|.cons c<|.cons c<|.cons c<|.nil _) .slnil) fun k9 H10=>bi<|M<|J c<|p (cn c)<|ac<|av c H10 (fun k31 H32=>M<|O c<|ai<|Y ⟨true,c,H32⟩) fun k31 H32=>an<|ao<|J c<|p (bp c c)<|O c<|cK (IntKind.i64.wrap (s1 + 1)) H32 (.cons c<|.cons c<|.cons c<|.cons c<|.nil _) .slnil) fun k4 H5=>bi<|ak<|M<|O c<|ax<|bD (step:=gm a0 a1 K) (fun s33=>[(0,(pv a0)),(1,(.int .i64 a1)),(11,(.int .i64 s33))]) (fun s33=>[]) H5 (.cons c<|.cons c<|.cons c<|.nil _) .slnil fun Rec34 s33 _ H35=>ak<|M<|J c<|J c<|p (ct c c)<|ac<|av c H35 (fun k36 H37=>an<|ak<|ax<|M<|J c<|J c<|aa<|Z H37 en_34 fun r56 _ H38=>ac<|av c H38 (fun k39 H40=>M<|O c<|ai<|Y ⟨false,c,H40⟩) fun k39 H40=>an<|ao<|J c<|p (bp c c)<|O c<|cK (IntKind.i64.wrap (s33 + 1)) H40 (.cons c<|.cons c<|.cons c<|.nil _) .slnil) fun k36 H37=>bi<|M<|O c<|ai<|Y ⟨true,c,H37⟩
def ga (a1:Int) (K:(ab × Bool)→Hp→Prop) (r24:Sl) (Rec9:(Int × ab)→Hp→Prop) (s8:Int × ab):Hp→Prop:=br (decide (s8.1 ≥ 0)) ( ix r24 s8.1 fun q34=>ld (q34.1,q34.2 + Int.toNat s8.1 * 16 + 0) (cI .i64) fun x36=>br (x36 == a1) ( both ( ld (q34.1,q34.2 + Int.toNat s8.1 * 16 + 10) ab.C fun x43=>ld (q34.1,q34.2 + Int.toNat s8.1 * 16 + 9) (cI .i64) fun x48=>K (x43,(decide (x48 > 0)))) ( ld (q34.1,q34.2 + Int.toNat s8.1 * 16 + 9) (cI .i64) fun x48=>ld (q34.1,q34.2 + Int.toNat s8.1 * 16 + 10) ab.C fun x43=>K (x43,(decide (x48 > 0))))) ( Rec9 ((IntKind.i64.wrap (s8.1 - 1)),s8.2))) ( K ((⟨0,0⟩:ab),false))
def qG (a0:Ptr) (a1:Int) (a2:Int) (a3:ae) (K:(ab × Bool)→Hp→Prop):Hp→Prop:=cl Tryz.prog kQ [(pv a0),(.int .i64 a1),(.int .i64 a2),(.agg (ae.C a3).toArray)] aB fun r16=>br (!r16) ( K ((⟨0,0⟩:ab),false)) ( cl Tryz.prog fu [(pv a0),(.int .i64 8),(.int .i64 1000)] aB fun r20=>br (!r20) ( K ((⟨0,0⟩:ab),false)) ( cl Tryz.prog eP [(pv a0)] dQ fun r24=>Lp (ga a1 K r24) ((IntKind.i64.wrap ((r24.len:Int) - 1)),(⟨0,0⟩:ab))))
theorem sim_messuagelaw16_Run (a0:Ptr) (a1:Int) (a2:Int) (a3:ae) {K:(ab × Bool)→Hp→Prop} {h:Hp} (H:qG a0 a1 a2 a3 K h):Ct Tryz.prog dK #[(pv a0),(.int .i64 a1),(.int .i64 a2),(.agg (ae.C a3).toArray)] h fun v h'=>∃ r,v = bg r∧K r h':=aw [(pv a0),(.int .i64 a1),(.int .i64 a2),(.agg (ae.C a3).toArray)] Tryz.func38 c c c fun _=>M<|aa<|cJ (l:=ae.C a3) c c c fun b7=>aa<|aK (l:=ab.C (⟨0,0⟩:ab)) cY c c fun b8=>O c<|ak<|M<|J c<|J c<|J c<|bh (bB (k:=1) fh c c c c) c<|aa<|Z H en_33 fun r16 _ H1=>p (cn c)<|ac<|av c H1 (fun k2 H3=>M<|p (aZ (vs:=[]) c tq)<|aa<|aO (k:=0) (vs:=ab.C (⟨0,0⟩:ab)) bL c c c c c c c<|O c<|ai<|bw (bR c (bC (k:=0) c cA c c)<|bY c) ⟨((⟨0,0⟩:ab),false),c,H3⟩) fun k2 H3=>an<|ak<|M<|J c<|aa<|Z H3 en_39 fun r20 _ H4=>p (cn c)<|ac<|av c H4 (fun k5 H6=>M<|p (aZ (vs:=[]) c tq)<|aa<|aO (k:=0) (vs:=ab.C (⟨0,0⟩:ab)) bL c c c c c c c<|O c<|ai<|bw (bR c (bC (k:=0) c cA c c)<|bY c) ⟨((⟨0,0⟩:ab),false),c,H6⟩) fun k5 H6=>an<|M<|J c<|aa<|Z H6 en_37 fun r24 _ H7=>O c<|ak<|M<|J c<|p (dz c Tryz.underlying39 c)<|p (v_sub c c)<|O c<|ax<|bD (step:=ga a1 K r24) (fun s8=>[(1,(.int .i64 a1)),(8,(.pointer (some ⟨b8,0,none⟩))),(10,(sv r24)),(11,(.int .i64 s8.1))]) (fun s8=>[bx b8 47 (ab.C s8.2)]) H7 (.cons c<|.cons c<|.cons c<|.cons c<|.nil _) (.cons_cons _<|.cons _ .slnil) fun Rec9 s8 _ H10=>ak<|M<|J c<|p (jH c c)<|ac<|av c H10 (fun k11 H12=>an<|ak<|ax<|M<|J c<|J c<|cj H12 fun q34 e13 h14 H15=>p (bo qW (aL c<|ba e13) c h14)<|p (ad qQ c)<|aa<|aV H15 aY c (fun _=>c) c fun x36 H16=>J c<|p (bM c c)<|ac<|av c H16 (fun k17 H18=>ak<|bm (n:=13) [] ck c (.cons _ .slnil)<|U 0 c (ah c)<|U 1 c (ah c)<|U 2 c (bo qW (aL c<|ba e13) c h14)<|U 3 c (ad km c)<|U 5 c (ah c)<|U 6 c (ah c)<|U 7 c (bo qW (aL c<|ba e13) c h14)<|U 8 c (ad qP c)<|jC H18 fun H19_1 H19_2=>jD (i:=4) (j:=9) (by kernel_rfl) (cC c c<|gJ H19_1 cA c (fun _=>c) c fun x43 H20=>⟨.cons _ .slnil,jD (i:=9) (j:=11) (by kernel_rfl) (cC c c<|aV H20 aY c (fun _=>c) c fun x48 H22=>⟨.cons _ .slnil,U 10 c (qr c c)<|G 11 c<|aO (k:=0) (vs:=ab.C x43) bL c c c c c c c ⟨.cons _ .slnil,U 12 c (ar c)<|aU (by kernel_rfl)<|ai<|bw (bR c (bC (k:=0) c cA c c)<|bY c) ⟨(x43,(decide (x48 > 0))),c,H22⟩⟩⟩)<|cC c c<|aO (k:=0) (vs:=ab.C x43) bL c c c c c c c ⟨.cons _ .slnil,bF (i:=9) (fun _ _ _ _ hh=>hh) H20 c (by kernel_rfl) aY c (fun _=>c) c fun x48 H22=>U 10 c (qr c c)<|U 12 c (ar c)<|aU (by kernel_rfl)<|ai<|bw (bR c (bC (k:=0) c cA c c)<|bY c) ⟨(x43,(decide (x48 > 0))),c,H22⟩⟩⟩)<|cC c c<|aV H19_2 aY c (fun _=>c) c fun x48 H20=>⟨.cons _ .slnil,U 10 c (qr c c)<|xi (i:=4) (fun _ _ _ _ hh=>hh) H20 c (by kernel_rfl) cA c (fun _=>c) c fun x43 H21=>G 11 c<|aO (k:=0) (vs:=ab.C x43) bL c c c c c c c ⟨.cons _ .slnil,U 12 c (ar c)<|aU (by kernel_rfl)<|ai<|bw (bR c (bC (k:=0) c cA c c)<|bY c) ⟨(x43,(decide (x48 > 0))),c,H21⟩⟩⟩) fun k17 H18=>an<|ao<|J c<|p (v_sub c c)<|O c<|cK ((IntKind.i64.wrap (s8.1 - 1)),s8.2) H18 (.cons c<|.cons c<|.cons c<|.cons c<|.nil _)<|.cons_cons _ .slnil) fun k11 H12=>bi<|M<|p (aZ (vs:=[]) c tq)<|aa<|aO (k:=0) (vs:=ab.C (⟨0,0⟩:ab)) bL c c c c c c c<|O c<|ai<|bw (bR c (bC (k:=0) c cA c c)<|bY c) ⟨((⟨0,0⟩:ab),false),c,H12⟩
def ov (K:Bool→Hp→Prop):Hp→Prop:=cl Tryz.prog wW [(.agg (aC.C (⟨2,2,3⟩:aC)).toArray)] sg fun r21=>br r21.isNone ( K false) ( cl Tryz.prog dK [(pv r21),(.int .i64 0),(.int .i64 0),(.agg (ae.C (⟨1,1,0,0,0⟩:ae)).toArray)] bg fun r27=>cl Tryz.prog dK [(pv r21),(.int .i64 0),(.int .i64 0),(.agg (ae.C (⟨6,4,1,3,0⟩:ae)).toArray)] bg fun r33=>cl Tryz.prog dK [(pv r21),(.int .i64 1),(.int .i64 0),(.agg (ae.C (⟨21,4,2,9,0⟩:ae)).toArray)] bg fun r39=>cl Tryz.prog dK [(pv r21),(.int .i64 0),(.int .i64 0),(.agg (ae.C (⟨20,4,2,0,0⟩:ae)).toArray)] bg fun r45=>cl Tryz.prog dK [(pv r21),(.int .i64 0),(.int .i64 0),(.agg (ae.C (⟨7,4,0,0,0⟩:ae)).toArray)] bg fun r51=>cl Tryz.prog eP [(pv r21)] dQ fun r55=>cl Tryz.prog oH [(sv r55),(.agg (aC.C (⟨2,2,3⟩:aC)).toArray)] bK fun r59=>cl Tryz.prog oI [(sv r55),(.agg (aC.C (⟨2,2,3⟩:aC)).toArray)] bK fun r65=>cl Tryz.prog uK [(.int .i64 2),(.int .i64 3)] nU fun r68=>cl Tryz.prog kD [] aB fun r69=>br (((((((((((((((r69 && r27.2) && r33.2) && r39.2) && r45.2) && r51.2) && (r27.1.fErr == 0)) && (r33.1.fErr == 0)) && (r39.1.fErr == 0)) && (r45.1.fVal == 9)) && (r51.1.fErr == 0)) && ((r55.len:Int) == 5)) && (r59.1 == (-1))) && r59.2) && (r65.1 == (-1))) && r65.2) ( cl Tryz.prog wX [(sv r55),(.agg (aC.C (⟨2,2,3⟩:aC)).toArray)] aB fun r132=>br r132 ( cl Tryz.prog oJ [(sv r55)] cz fun r136=>br (((r136.len:Int) == 5) && ((r68.len:Int) == 12)) ( cl Tryz.prog n_fair_Fair [(sv r68),(.int .i64 2),(.int .i64 5)] aB fun r147=>br r147 ( cl Tryz.prog n_twin_View [(sv r55),(.int .i64 0)] mR fun r151=>br ((r151.len:Int) == 5) ( cl Tryz.prog qh [(sv r55),(.agg (aC.C (⟨2,2,3⟩:aC)).toArray)] aB fun r158=>K r158) ( K false)) ( K false)) ( K false)) ( K false)) ( K false))
theorem uV {K:Bool→Hp→Prop} {h:Hp} (H:ov K h):Ct Tryz.prog kB #[] h fun v h'=>∃ r,v = aB r∧K r h':=aw [] Tryz.func10 c c c fun _=>M<|O c<|M<|p (aZ c<|tt 2 2 3)<|aa<|aK (l:=aC.C (⟨0,0,0⟩:aC)) zero_35 c c fun b1=>aa<|aO (k:=0) (vs:=aC.C (⟨2,2,3⟩:aC)) inf_35 c c c c c c c<|ac<|M<|bh (bB (k:=0) pD c c c c) c<|aa<|Z H en_28 fun r21 _ H1=>O c<|ak<|M<|J c<|p (cm Tryz.underlying54 c)<|ac<|av c H1 (fun k2 H3=>M<|O c<|ai<|Y ⟨false,c,H3⟩) fun k2 H3=>an<|M<|J c<|p (aZ c<|iZ 1 1)<|aa<|Z H3 en_38 fun r27 _ H4=>J c<|p (aj c c)<|p (aj c c)<|aa<|aK (l:=ab.C (⟨0,0⟩:ab)) cY c c fun b3=>aa<|aO (k:=0) (vs:=ab.C r27.1) bL c c c c c c c<|O c<|M<|J c<|p (aZ c<|gZ 6 4 1 3)<|aa<|Z H4 en_38 fun r33 _ H5=>J c<|p (aj c c)<|p (aj c c)<|aa<|aK (l:=ab.C (⟨0,0⟩:ab)) cY c c fun b5=>aa<|aO (k:=0) (vs:=ab.C r33.1) bL c c c c c c c<|O c<|M<|J c<|p (aZ c<|gZ 21 4 2 9)<|aa<|Z H5 en_38 fun r39 _ H6=>J c<|p (aj c c)<|p (aj c c)<|aa<|aK (l:=ab.C (⟨0,0⟩:ab)) cY c c fun b7=>aa<|aO (k:=0) (vs:=ab.C r39.1) bL c c c c c c c<|O c<|M<|J c<|p (aZ c<|tu 20 4 2)<|aa<|Z H6 en_38 fun r45 _ H7=>J c<|p (aj c c)<|p (aj c c)<|aa<|aK (l:=ab.C (⟨0,0⟩:ab)) cY c c fun b9=>aa<|aO (k:=0) (vs:=ab.C r45.1) bL c c c c c c c<|O c<|M<|J c<|p (aZ c<|iZ 7 4)<|aa<|Z H7 en_38 fun r51 _ H8=>J c<|p (aj c c)<|p (aj c c)<|aa<|aK (l:=ab.C (⟨0,0⟩:ab)) cY c c fun b11=>aa<|aO (k:=0) (vs:=ab.C r51.1) bL c c c c c c c<|O c<|M<|J c<|aa<|Z H8 en_37 fun r55 _ H9=>O c<|M<|J c<|bh (bB (k:=5) pD c c c c) c<|aa<|Z H9 en_44 fun r59 _ H10=>J c<|p (aj c c)<|p (aj c c)<|p (ar c)<|O c<|M<|J c<|bh (bB (k:=5) pD c c c c) c<|aa<|Z H10 en_49 fun r65 _ H11=>J c<|p (aj c c)<|p (aj c c)<|p (ar c)<|O c<|M<|aa<|Z H11 en_11 fun r68 _ H12=>O c<|M<|aa<|Z H12 en_50 fun r69 _ H13=>J c<|V c c (ay _) (fun g14=>wv<|ah c)<|p (bP c c)<|J c<|V c c (ay _) (fun g15=>wv<|ah c)<|p (bP c c)<|J c<|V c c (ay _) (fun g16=>wv<|ah c)<|p (bP c c)<|J c<|V c c (ay _) (fun g17=>wv<|ah c)<|p (bP c c)<|J c<|V c c (ay _) (fun g18=>wv<|ah c)<|p (bP c c)<|J c<|V c c (ay _) (fun g19=>wv<|ad jB c)<|V c c (ay _) (fun g20=>cv<|bf (k:=4) nE (aD c g20) c c)<|V c c (ay _) (fun g21=>wv<|bM (aD c g21) c)<|p (bP c c)<|J c<|V c c (ay _) (fun g22=>wv<|ad jB c)<|V c c (ay _) (fun g23=>cv<|bf (k:=3) nE (aD c g23) c c)<|V c c (ay _) (fun g24=>wv<|bM (aD c g24) c)<|p (bP c c)<|J c<|V c c (ay _) (fun g25=>wv<|ad jB c)<|V c c (ay _) (fun g26=>cv<|bf (k:=2) nE (aD c g26) c c)<|V c c (ay _) (fun g27=>wv<|bM (aD c g27) c)<|p (bP c c)<|J c<|V c c (ay _) (fun g28=>wv<|ad fld_47_1 c)<|V c c (ay _) (fun g29=>cv<|bf (k:=1) cu (aD c g29) c c)<|V c c (ay _) (fun g30=>wv<|bM (aD c g30) c)<|p (bP c c)<|J c<|V c c (ay _) (fun g31=>wv<|ad jB c)<|V c c (ay _) (fun g32=>cv<|bf (k:=0) nE (aD c g32) c c)<|V c c (ay _) (fun g33=>wv<|bM (aD c g33) c)<|p (bP c c)<|J c<|V c c (ay _) (fun g34=>wv<|ah c)<|V c c (ay _) (fun g35=>wv<|dz c Tryz.underlying39<|aD c g35)<|V c c (ay _) (fun g36=>wv<|bM (aD c g36) c)<|p (bP c c)<|J c<|V c c (ay _) (fun g37=>wv<|ah c)<|V c c (ay _) (fun g38=>wv<|bM (aD c g38) c)<|p (bP c c)<|J c<|V c c (ay _) (fun g39=>wv<|ah c)<|p (bP c c)<|J c<|V c c (ay _) (fun g40=>wv<|ah c)<|V c c (ay _) (fun g41=>wv<|bM (aD c g41) c)<|p (bP c c)<|J c<|V c c (ay _) (fun g42=>wv<|ah c)<|p (bP c c)<|J c<|V c c (ay _) (fun g43=>wv<|ah c)<|V c c (ay _) (fun g44=>cv<|bB (k:=5) pD c c c c)<|bT H13 (fun k46 H47=>F (D k46)<|gj H47 en_19 (aS (aD c k46)<|aS (aD c k46) bS) c fun r132 _ H48=>p (aT c k46 c)<|J c<|V c c (ay _) (fun g49=>wv<|ah c)<|bT H48 (fun k51 H52=>F (D k51)<|gj H52 en_26 (aS (aD c k51) bS) c fun r136 _ H53=>F (D k51)<|R (dz c Tryz.underlying41 c)<|F (D k51)<|R (bM c c)<|p (aT c k51 c)<|J c<|V c c (ay _) (fun g54=>wv<|ah c)<|V c c (ay _) (fun g55=>wv<|dz c Tryz.underlying23<|aD c g55)<|V c c (ay _) (fun g56=>wv<|bM (aD c g56) c)<|p (bP c c)<|J c<|V c c (ay _) (fun g57=>wv<|ah c)<|bT H53 (fun k59 H60=>F (D k59)<|gj H60 en_12 (aS (aD c k59)<|aS c<|aS c bS) c fun r147 _ H61=>p (aT c k59 c)<|J c<|V c c (ay _) (fun g62=>wv<|ah c)<|bT H61 (fun k64 H65=>F (D k64)<|gj H65 en_51 (aS (aD c k64)<|aS c bS) c fun r151 _ H66=>F (D k64)<|R (dz c Tryz.underlying84 c)<|F (D k64)<|R (bM c c)<|p (aT c k64 c)<|J c<|V c c (ay _) (fun g67=>wv<|ah c)<|V c c (ay _) (fun g68=>cv<|bB (k:=5) pD c c c c)<|bT H66 (fun k70 H71=>F (D k70)<|gj H71 en_41 (aS (aD c k70)<|aS (aD c k70) bS) c fun r158 _ H72=>p (aT c k70 c)<|O c<|ai<|Y ⟨r158,c,H72⟩) fun k70 H71=>W (aQ k70)<|p (aq c k70 c)<|O c<|ai<|Y ⟨false,c,H71⟩) fun k64 H65=>W (aQ k64)<|W (aQ k64)<|W (aQ k64)<|p (aq c k64 c)<|J c<|W c<|W c<|W c<|p (aq c c c)<|O c<|ai<|Y ⟨false,c,H65⟩) fun k59 H60=>W (aQ k59)<|p (aq c k59 c)<|J c<|W c<|W c<|W c<|W c<|p (aq c c c)<|J c<|W c<|W c<|W c<|p (aq c c c)<|O c<|ai<|Y ⟨false,c,H60⟩) fun k51 H52=>W (aQ k51)<|W (aQ k51)<|W (aQ k51)<|p (aq c k51 c)<|J c<|W c<|W c<|W c<|p (aq c c c)<|J c<|W c<|W c<|p (aq c c c)<|J c<|W c<|W c<|W c<|W c<|p (aq c c c)<|J c<|W c<|W c<|W c<|p (aq c c c)<|O c<|ai<|Y ⟨false,c,H52⟩) fun k46 H47=>W (aQ k46)<|p (aq c k46 c)<|J c<|W c<|W c<|W c<|W c<|p (aq c c c)<|J c<|W c<|W c<|W c<|p (aq c c c)<|J c<|W c<|W c<|p (aq c c c)<|J c<|W c<|W c<|W c<|W c<|p (aq c c c)<|J c<|W c<|W c<|W c<|p (aq c c c)<|O c<|ai<|Y ⟨false,c,H47⟩
def kE (a1:Int) (K:au→Hp→Prop) (r9:Sl) (Rec3:(Int × au)→Hp→Prop) (s2:Int × au):Hp→Prop:=br (decide (s2.1 < (r9.len:Int))) ( ix r9 s2.1 fun q13=>ld (q13.1,q13.2 + Int.toNat s2.1 * 16) au.C fun x14=>br (x14.fCore == a1) ( Rec3 ((IntKind.i64.wrap (s2.1 + 1)),x14)) ( Rec3 ((IntKind.i64.wrap (s2.1 + 1)),s2.2))) ( K s2.2)
def pw (a0:Ptr) (a1:Int) (K:au→Hp→Prop):Hp→Prop:=cl Tryz.prog eP [(pv a0)] dQ fun r9=>Lp (kE a1 K r9) (0,(⟨0,0,(⟨0,0,0,0,0⟩:ae),0,0,0,(⟨0,0⟩:ab),(⟨0,0,0,0⟩:al)⟩:au))
theorem wB (a0:Ptr) (a1:Int) {K:au→Hp→Prop} {h:Hp} (H:pw a0 a1 K h):Ct Tryz.prog lr #[(pv a0),(.int .i64 a1)] h fun v h'=>∃ r,v = R_api_Event r∧K r h':=aw [(pv a0),(.int .i64 a1)] Tryz.func40 c c c fun _=>M<|aa<|aK (l:=au.C (⟨0,0,(⟨0,0,0,0,0⟩:ae),0,0,0,(⟨0,0⟩:ab),(⟨0,0,0,0⟩:al)⟩:au)) tC c c fun b4=>ac<|M<|aa<|aK (l:=au.C (⟨0,0,(⟨0,0,0,0,0⟩:ae),0,0,0,(⟨0,0⟩:ab),(⟨0,0,0,0⟩:al)⟩:au)) tC c c fun b5=>ac<|ak<|M<|J c<|aa<|Z H en_37 fun r9 _ H1=>p (dz c Tryz.underlying39 c)<|J c<|ac<|ax<|bD (step:=kE a1 K r9) (fun s2=>[(1,(.int .i64 a1)),(4,(.pointer (some ⟨b4,0,none⟩))),(5,(.pointer (some ⟨b5,0,none⟩))),(9,(sv r9)),(10,(.int .i64 (r9.len:Int))),(11,(.int .i64 s2.1))]) (fun s2=>[bx b5 51 (au.C s2.2),bx b4 51 (au.C (⟨0,0,(⟨0,0,0,0,0⟩:ae),0,0,0,(⟨0,0⟩:ab),(⟨0,0,0,0⟩:al)⟩:au))]) H1 (.cons c<|.cons c<|.cons c<|.cons c<|.cons c<|.cons c<|.nil _) (.cons_cons _<|.cons_cons _ .slnil) fun Rec3 s2 _ H4=>M<|p (ct c c)<|ac<|ak<|av c H4 (fun k5 H6=>an<|ak<|ax<|M<|cj H6 fun q13 e7 h8 H9=>p (bo qW (aL c<|ba e7) c h8)<|aa<|gJ H9 ux c (fun _=>c) c fun x14 H10=>aa<|aK (l:=au.C (⟨0,0,(⟨0,0,0,0,0⟩:ae),0,0,0,(⟨0,0⟩:ab),(⟨0,0,0,0⟩:al)⟩:au)) tC c c fun b7=>aa<|aO (k:=0) (vs:=au.C x14) inf_51 c c c c c c c<|ac<|M<|p (ad qQ c)<|bh (bf (k:=0) aY c c c) c<|J c<|p (bM c c)<|ac<|av c H10 (fun k11 H12=>ao<|bh (bB (k:=0) ux c c c c) c<|aa<|aO (k:=1) (vs:=au.C x14) inf_51 c c c c c c c<|ac<|ao<|p (bp c c)<|J c<|ac<|cK ((IntKind.i64.wrap (s2.1 + 1)),x14) H12 (.cons c<|.cons c<|.cons c<|.cons c<|.cons c<|.cons c<|.nil _)<|.cons _<|.cons_cons _<|.cons_cons _ .slnil) fun k11 H12=>an<|ao<|p (bp c c)<|J c<|ac<|cK ((IntKind.i64.wrap (s2.1 + 1)),s2.2) H12 (.cons c<|.cons c<|.cons c<|.cons c<|.cons c<|.cons c<|.nil _)<|.cons _<|.cons_cons _<|.cons_cons _ .slnil) fun k5 H6=>bi<|M<|bh (bB (k:=0) ux c c c c) c<|aa<|aO (k:=1) (vs:=au.C s2.2) inf_51 c c c c c c c<|ac<|ai<|bw (mg c<|bC (k:=1) c ux c c) ⟨s2.2,c,H6⟩
def iv (a0:Int) (K:Bool→Hp→Prop) (r28:Ptr) (Rec33:(Int × Int)→Hp→Prop) (s32:Int × Int):Hp→Prop:=br (decide (s32.2 < (IntKind.i64.wrap (2 + ((IntKind.i64.wrap ((a0.tmod 6) + 6)).tmod 6))))) ( cl Tryz.prog lr [(pv r28),(.int .i64 s32.2)] R_api_Event fun r89=>hpv Tryz.prog (Instr.field qw (.agg (au.C r89).toArray) 6) fy fun (v90:ab)=>hpv Tryz.prog (Instr.field rJ (.agg (ab.C v90).toArray) 0) bc fun (v91:Int)=>br (v91 == 0) ( Rec33 ((IntKind.i64.wrap (s32.1 + 1)),(IntKind.i64.wrap (s32.2 + 1)))) ( br (v91 == 4) ( Rec33 (s32.1,(IntKind.i64.wrap (s32.2 + 1)))) ( K false))) ( br (s32.1 == 1) ( cl Tryz.prog eP [(pv r28)] dQ fun r102=>cl Tryz.prog qh [(sv r102),(.agg (aC.C (⟨(IntKind.i64.wrap (2 + ((IntKind.i64.wrap ((a0.tmod 6) + 6)).tmod 6))),1,8⟩:aC)).toArray)] aB fun r104=>K r104) ( K false))
def iw (a0:Int) (a1:Sl) (K:Bool→Hp→Prop) (r28:Ptr) (Rec16:Int→Hp→Prop) (s15:Int):Hp→Prop:=br ((decide (s15 < (a1.len:Int))) && (decide (s15 < 60))) ( ix a1 s15 fun q69=>ld (q69.1,q69.2 + Int.toNat s15 * 1) (cI .i64) fun x70=>gd ((IntKind.i64.wrap (2 + ((IntKind.i64.wrap ((a0.tmod 6) + 6)).tmod 6))) ≠ 0)<|cl Tryz.prog lT [(pv r28),(.int .i64 ((IntKind.i64.wrap ((x70.tmod (IntKind.i64.wrap (2 + ((IntKind.i64.wrap ((a0.tmod 6) + 6)).tmod 6)))) + (IntKind.i64.wrap (2 + ((IntKind.i64.wrap ((a0.tmod 6) + 6)).tmod 6))))).tmod (IntKind.i64.wrap (2 + ((IntKind.i64.wrap ((a0.tmod 6) + 6)).tmod 6)))))] aB fun r77=>Rec16 (IntKind.i64.wrap (s15 + 1))) ( cl Tryz.prog fu [(pv r28),(.int .i64 (IntKind.i64.wrap (2 + ((IntKind.i64.wrap ((a0.tmod 6) + 6)).tmod 6)))),(.int .i64 1000)] aB fun r80=>br (!r80) ( K false) ( Lp (iv a0 K r28) (0,0)))
def iy (a0:Int) (a1:Sl) (K:Bool→Hp→Prop) (r28:Ptr) (s7:ae) (Rec10:Int→Hp→Prop) (s9:Int):Hp→Prop:=br (decide (s9 < (IntKind.i64.wrap (2 + ((IntKind.i64.wrap ((a0.tmod 6) + 6)).tmod 6))))) ( cl Tryz.prog kQ [(pv r28),(.int .i64 s9),(.int .i64 0),(.agg (ae.C s7).toArray)] aB fun r55=>Rec10 (IntKind.i64.wrap (s9 + 1))) ( Lp (iw a0 a1 K r28) 0)
def eq (a0:Int) (a1:Sl) (K:Bool→Hp→Prop) (r28:Ptr) (s7:ae):Hp→Prop:=Lp (iy a0 a1 K r28 s7) 0
def me (a0:Int) (a1:Sl) (a2:Bool) (K:Bool→Hp→Prop):Hp→Prop:=cl Tryz.prog kB [] aB fun r17=>br (!r17) ( K false) ( cl Tryz.prog wW [(.agg (aC.C (⟨(IntKind.i64.wrap (2 + ((IntKind.i64.wrap ((a0.tmod 6) + 6)).tmod 6))),1,8⟩:aC)).toArray)] sg fun r28=>br r28.isNone ( K false) ( br a2 ( cl Tryz.prog dK [(pv r28),(.int .i64 0),(.int .i64 0),(.agg (ae.C (⟨1,1,0,0,0⟩:ae)).toArray)] bg fun r36=>br ((!r36.2) || (r36.1.fErr != 0)) ( K false) ( eq a0 a1 K r28 (⟨6,2,1,3,0⟩:ae))) ( eq a0 a1 K r28 (⟨1,3,0,0,0⟩:ae))))
theorem sD (a0:Int) (a1:Sl) (a2:Bool) {K:Bool→Hp→Prop} {h:Hp} (H:me a0 a1 a2 K h):Ct Tryz.prog mM #[(.int .i64 a0),(sv a1),(.bool a2)] h fun v h'=>∃ r,v = aB r∧K r h':=aw [(.int .i64 a0),(sv a1),(.bool a2)] Tryz.func8 c c c fun _=>M<|O c<|M<|aa<|Z H en_10 fun r17 _ H1=>O c<|ak<|M<|J c<|p (cn c)<|ac<|av c H1 (fun k2 H3=>M<|O c<|ai<|Y ⟨false,c,H3⟩) fun k2 H3=>an<|M<|J c<|p (v_rem c c (by decide))<|p (bp c c)<|p (v_rem c c (by decide))<|p (bp c c)<|O c<|M<|J c<|p (aZ c<|tt (IntKind.i64.wrap (2 + ((IntKind.i64.wrap ((a0.tmod 6) + 6)).tmod 6))) 1 8)<|aa<|aK (l:=aC.C (⟨0,0,0⟩:aC)) zero_35 c c fun b8=>aa<|aO (k:=0) (vs:=aC.C (⟨(IntKind.i64.wrap (2 + ((IntKind.i64.wrap ((a0.tmod 6) + 6)).tmod 6))),1,8⟩:aC)) inf_35 c c c c c c c<|ac<|M<|bh (bB (k:=0) pD c c c c) c<|aa<|Z H3 en_28 fun r28 _ H4=>O c<|ak<|M<|J c<|p (cm Tryz.underlying54 c)<|ac<|av c H4 (fun k5 H6=>M<|O c<|ai<|Y ⟨false,c,H6⟩) fun k5 H6=>an<|M<|p (aZ c<|iZ 1 3)<|aa<|aK (l:=ae.C (⟨0,0,0,0,0⟩:ae)) zero_27 c c fun b10=>aa<|aO (k:=0) (vs:=ae.C (⟨1,3,0,0,0⟩:ae)) inf_27 c c c c c c c<|ac<|eo (eq a0 a1 K r28) (fun s7=>[(0,(.int .i64 (IntKind.i64.wrap (2 + ((IntKind.i64.wrap ((a0.tmod 6) + 6)).tmod 6))))),(1,(sv a1)),(8,(.pointer (some ⟨b8,0,none⟩))),(9,(pv r28)),(10,(.pointer (some ⟨b10,0,none⟩)))]) (fun s7=>[bx b10 27 (ae.C s7),bx b8 35 (aC.C (⟨(IntKind.i64.wrap (2 + ((IntKind.i64.wrap ((a0.tmod 6) + 6)).tmod 6))),1,8⟩:aC))]) (M<|J c<|ac<|av c H6 (fun k48 H49=>ak<|M<|J c<|p (aZ c<|iZ 1 1)<|aa<|Z H49 en_38 fun r36 _ H50=>J c<|p (aj c c)<|p (aj c c)<|aa<|aK (l:=ab.C (⟨0,0⟩:ab)) cY c c fun b11=>aa<|aO (k:=0) (vs:=ab.C r36.1) bL c c c c c c c<|O c<|M<|J c<|p (cn c)<|J c<|V c c (aM _) (fun g51=>wv<|ad jB c)<|V c c (aM _) (fun g52=>cv<|bf (k:=0) nE (aD c g52) c c)<|V c c (aM _) (fun g53=>wv<|pF (aD c g53) c)<|p (dp c c)<|ac<|av c H50 (fun k54 H55=>M<|O c<|ai<|Y ⟨false,c,H55⟩) fun k54 H55=>an<|ao<|p (aZ c<|gZ 6 2 1 3)<|aa<|aO (k:=1) (vs:=ae.C (⟨6,2,1,3,0⟩:ae)) inf_27 c c c c c c c<|ac<|cE (⟨6,2,1,3,0⟩:ae) H55 (.cons c<|.cons c<|.cons c<|.cons c<|.cons c<|.nil _)<|.cons _<|.cons_cons _<|.cons_cons _ .slnil) fun k48 H49=>an<|cE (⟨1,3,0,0,0⟩:ae) H49 (.cons c<|.cons c<|.cons c<|.cons c<|.cons c<|.nil _)<|.cons_cons _<|.cons_cons _ .slnil) fun s7 _ H8=>ak<|M<|O c<|ax<|bD (step:=iy a0 a1 K r28 s7) (fun s9=>[(0,(.int .i64 (IntKind.i64.wrap (2 + ((IntKind.i64.wrap ((a0.tmod 6) + 6)).tmod 6))))),(1,(sv a1)),(8,(.pointer (some ⟨b8,0,none⟩))),(9,(pv r28)),(10,(.pointer (some ⟨b10,0,none⟩))),(13,(.int .i64 s9))]) (fun s9=>[bx b10 27 (ae.C s7),bx b8 35 (aC.C (⟨(IntKind.i64.wrap (2 + ((IntKind.i64.wrap ((a0.tmod 6) + 6)).tmod 6))),1,8⟩:aC))]) H8 (.cons c<|.cons c<|.cons c<|.cons c<|.cons c<|.cons c<|.nil _) (.cons_cons _<|.cons_cons _ .slnil) fun Rec10 s9 _ H11=>ak<|M<|J c<|J c<|p (ct c c)<|ac<|av c H11 (fun k12 H13=>an<|ak<|ax<|ao<|J c<|J c<|bh (bB (k:=0) fh c c c c) c<|aa<|Z H13 en_33 fun r55 _ H14=>ac<|ao<|J c<|p (bp c c)<|O c<|cK (IntKind.i64.wrap (s9 + 1)) H14 (.cons c<|.cons c<|.cons c<|.cons c<|.cons c<|.cons c<|.nil _)<|.cons_cons _<|.cons_cons _ .slnil) fun k12 H13=>bi<|ak<|M<|O c<|ax<|bD (step:=iw a0 a1 K r28) (fun s15=>[(0,(.int .i64 (IntKind.i64.wrap (2 + ((IntKind.i64.wrap ((a0.tmod 6) + 6)).tmod 6))))),(1,(sv a1)),(8,(.pointer (some ⟨b8,0,none⟩))),(9,(pv r28)),(14,(.int .i64 s15))]) (fun s15=>[bx b8 35 (aC.C (⟨(IntKind.i64.wrap (2 + ((IntKind.i64.wrap ((a0.tmod 6) + 6)).tmod 6))),1,8⟩:aC))]) H13 (.cons c<|.cons c<|.cons c<|.cons c<|.cons c<|.nil _) (.cons _<|.cons_cons _ .slnil) fun Rec16 s15 _ H17=>ak<|M<|J c<|J c<|p (dz c Tryz.underlying41 c)<|p (ct c c)<|J c<|V c c (ay _) (fun g18=>wv<|ah c)<|V c c (ay _) (fun g19=>wv<|ct (aD c g19) c)<|p (bP c c)<|ac<|av c H17 (fun k20 H21=>an<|ak<|ax<|ao<|J c<|J c<|J c<|cj H21 fun q69 e22 h23 H24=>p (bo hO (aL c<|ba e22) c h23)<|aa<|aV H24 aY c (fun _=>c) c fun x70 H25=>J c<|iA H25 fun z26 H27=>p (v_rem c c z26)<|J c<|p (bp c c)<|J c<|p (v_rem c c z26)<|aa<|Z H27 en_30 fun r77 _ H28=>ac<|ao<|J c<|p (bp c c)<|O c<|cK (IntKind.i64.wrap (s15 + 1)) H28 (.cons c<|.cons c<|.cons c<|.cons c<|.cons c<|.nil _)<|.cons_cons _ .slnil) fun k20 H21=>bi<|ak<|M<|J c<|J c<|aa<|Z H21 en_39 fun r80 _ H29=>p (cn c)<|ac<|av c H29 (fun k30 H31=>M<|O c<|ai<|Y ⟨false,c,H31⟩) fun k30 H31=>an<|M<|O c<|ak<|M<|O c<|ax<|bD (step:=iv a0 K r28) (fun s32=>[(0,(.int .i64 (IntKind.i64.wrap (2 + ((IntKind.i64.wrap ((a0.tmod 6) + 6)).tmod 6))))),(8,(.pointer (some ⟨b8,0,none⟩))),(9,(pv r28)),(15,(.int .i64 s32.1)),(16,(.int .i64 s32.2))]) (fun s32=>[bx b8 35 (aC.C (⟨(IntKind.i64.wrap (2 + ((IntKind.i64.wrap ((a0.tmod 6) + 6)).tmod 6))),1,8⟩:aC))]) H31 (.cons c<|.cons c<|.cons c<|.cons c<|.cons c<|.nil _) (.cons_cons _ .slnil) fun Rec33 s32 _ H34=>ak<|M<|J c<|J c<|p (ct c c)<|ac<|av c H34 (fun k35 H36=>an<|ak<|ax<|M<|J c<|J c<|aa<|Z H36 en_40 fun r89 _ H37=>aa<|aR H37 (x_fieldV c) c fun v90 _ H38=>aa<|aR H38 (x_fieldV c) c fun v91 _ H39=>ac<|ax<|M<|p (bM c c)<|O c<|av c H39 (fun k40 H41=>ao<|J c<|p (bp c c)<|O c<|ao<|J c<|p (bp c c)<|O c<|cK ((IntKind.i64.wrap (s32.1 + 1)),(IntKind.i64.wrap (s32.2 + 1))) H41 (.cons c<|.cons c<|.cons c<|.cons c<|.cons c<|.nil _)<|.cons_cons _ .slnil) fun k40 H41=>M<|p (bM c c)<|O c<|av c H41 (fun k42 H43=>an<|ao<|J c<|p (bp c c)<|O c<|cK (s32.1,(IntKind.i64.wrap (s32.2 + 1))) H43 (.cons c<|.cons c<|.cons c<|.cons c<|.cons c<|.nil _)<|.cons_cons _ .slnil) fun k42 H43=>M<|O c<|ai<|Y ⟨false,c,H43⟩) fun k35 H36=>bi<|ak<|bm (n:=9) [bx b8 35 (aC.C (⟨(IntKind.i64.wrap (2 + ((IntKind.i64.wrap ((a0.tmod 6) + 6)).tmod 6))),1,8⟩:aC))] ck c (.cons_cons _ .slnil)<|U 0 c (ah c)<|U 1 c (bM c c)<|U 2 c (ah c)<|oQ H36 (fun k44 H45=>z_n 3 c (D k44) (ve<|ah c)<|z_n 5 c (D k44) (dZ (k:=0) pD c c c c)<|eva_1 (i:=4) (by kernel_rfl)<|way_on c c c c (D k44)<|Z H45 en_37 fun r102 _ H46=>⟨.cons_cons _ .slnil,eva_1 (i:=6) (by kernel_rfl)<|way_on c c c c (D k44)<|Z H46 en_41 fun r104 _ H47=>⟨.cons_cons _ .slnil,U 7 c (aT c k44 c)<|U 8 c (ar c)<|aU (by kernel_rfl)<|ai<|Y ⟨r104,c,H47⟩⟩⟩) fun k44 H45=>I 3 c (aQ k44)<|I 4 c (aQ k44)<|I 5 c (aQ k44)<|I 6 c (aQ k44)<|U 7 c (aq c k44 c)<|U 8 c (ar c)<|aU (by kernel_rfl)<|ai<|Y ⟨false,c,H45⟩
end Go.Proofs.YtniiiakkdoiaiaaGreatDoor
namespace Go.Proofs.YtniiiakkdoiaiaaGreatDoor
open Go Mb
namespace KK
def drain (c:Int):Nat→KK→KK
  | 0,k=>k
  | n + 1,k=>if 0 < mail k c then drain c n (post k c).2 else k
def turn1 (k:KK) (c:Int):KK × Bool:=if busy (drain c 5000 k) c = true then ((step (drain c 5000 k) c).2,true) else (drain c 5000 k,false)
def sweep:Nat→Int→KK→Bool→KK × Bool
  | 0,_,k,b=>(k,b)
  | n + 1,c,k,b=>sweep n (c + 1) (turn1 k c).1 ((turn1 k c).2 || b)
def anyBusy (k:KK):Nat→Int→Bool
  | 0,_=>false
  | n + 1,c=>busy k c || anyBusy k n (c + 1)
def settle (cores:Nat):Nat→KK→Bool × KK
  | 0,k=>(!anyBusy k cores 0,k)
  | n + 1,k=>if (sweep cores 0 k false).2 = false then (true,(sweep cores 0 k false).1) else settle cores n (sweep cores 0 k false).1
def lastA (core:Int) (es:List bj):Nat→eJ × Bool
  | 0=>(⟨0,0⟩,false)
  | n + 1=>match es[n]? with
    | some e=>if e.fCore = core then (e.fAnswer,decide (e.fEnd > 0)) else lastA core es n
    | none=>(⟨0,0⟩,false)
def run (k:KK) (core env:Int) (c:df):(eJ × Bool) × KK :=
  if (begin_ k core env c).1 = false then ((⟨0,0⟩,false),(begin_ k core env c).2)
  else if (settle 8 1000 (begin_ k core env c).2).1 = false then ((⟨0,0⟩,false),(settle 8 1000 (begin_ k core env c).2).2)
  else (lastA core (settle 8 1000 (begin_ k core env c).2).2.events (settle 8 1000 (begin_ k core env c).2).2.events.length,(settle 8 1000 (begin_ k core env c).2).2)
theorem access_now (k:KK) (c:Int) (x:KC):(access k c x).2.now = k.now:=by unfold access; split; rfl; split <;> rfl
theorem work_now (k:KK) (c:Int) (x:KC):(work k c x).now = k.now:=by
  unfold work
  split
  · exact access_now k c x
  · split
    · rfl
    · split
      · rfl
      · split <;> rfl
theorem step_now {k:KK} (h0:0 ≤ k.now) (h:k.now < 2 ^ 38) (c:Int):k.now ≤ (step k c).2.now∧(step k c).2.now ≤ k.now + 1:=by
  have hw:=wrapN h0 (by omega)
  unfold step
  split
  · exact ⟨Int.le_refl _,by show k.now ≤ k.now + 1; omega⟩
  · split
    · exact ⟨Int.le_refl _,by show k.now ≤ k.now + 1; omega⟩
    · show _ ≤ (work _ _ _).now∧(work _ _ _).now ≤ _
      rw [work_now]
      simp only [tick,hw]; omega
theorem post_now {k:KK} (h0:0 ≤ k.now) (h:k.now < 2 ^ 38) (c:Int):k.now ≤ (post k c).2.now∧(post k c).2.now ≤ k.now + 1:=by
  have hw:=wrapN h0 (by omega)
  unfold post
  split
  · exact ⟨Int.le_refl _,by show k.now ≤ k.now + 1; omega⟩
  · split
    · exact ⟨Int.le_refl _,by show k.now ≤ k.now + 1; omega⟩
    · show _ ≤ (tick k).now∧(tick k).now ≤ _
      simp only [tick,hw]; omega
theorem begin_now {k:KK} (h0:0 ≤ k.now) (h:k.now < 2 ^ 38) (core env:Int) (c:df):k.now ≤ (begin_ k core env c).2.now∧(begin_ k core env c).2.now ≤ k.now + 1:=by
  have hw:=wrapN h0 (by omega)
  unfold begin_
  split
  · exact ⟨Int.le_refl _,by show k.now ≤ k.now + 1; omega⟩
  · simp only [hw]; omega
end KK
section
variable {x:Ptr} {l:List As}
theorem kern_n0 {k:KK} {h:Hp} (s:aG (cL x k::l) h):0 ≤ k.now∧k.events.length ≤ k.now:=by
  obtain ⟨z,_,_,ok,_⟩:=us s
  exact ⟨ok.n0,ok.evn⟩
theorem settle_l3 {Rec:Bool × Int→Hp→Prop} {k:KK} {b:Bool} {c:Int} {h:Hp} (h0:0 ≤ c) (hc:c < 100) (hn:k.now + 5001 < 2 ^ 37) (st:aG (cL x k::l) h)
    (kk:∀ h',(KK.turn1 k c).1.now ≤ k.now + 5001→aG (cL x (KK.turn1 k c).1::l) h'→Rec ((KK.turn1 k c).2 || b,c + 1) h'):Lp (gn x Rec (b,c)) 0 h:=by
  have hj:∀ d h',KK.drain c 5000 k = d→d.now ≤ k.now + 5000→aG (cL x d::l) h'→eV x Rec (b,c) () h':=by
    intro d h' e hd s1
    unfold eV
    refine bO (i:=0) (og x d c) rfl s1 fun r h2 hr s2=>?_
    refine bO (i:=0) (og x d c) rfl s2 fun r' h3 hr' s3=>?_
    subst hr; subst hr'
    have hw:IntKind.i64.wrap (c + 1) = c + 1:=bN (by omega) (by omega)
    simp only [hw]
    refine aX (fun k2=>?_) (fun k2=>?_)
    · refine bO (i:=0) (sp_kern_Step x d c (by omega)) rfl s3 fun r h4 hr s4=>?_
      have e2:KK.turn1 k c = ((KK.step d c).2,true):=by unfold KK.turn1; rw [e,if_pos k2]
      have n1:=kern_n0 s3
      have n2:=KK.step_now n1.1 (by omega) c
      rw [e2] at kk
      rw [k2]
      exact kk h4 (by show (KK.step d c).2.now ≤ _; omega) s4
    · have e2:KK.turn1 k c = (d,false):=by unfold KK.turn1; rw [e,if_neg (by rw [k2]; exact Bool.false_ne_true)]
      rw [e2] at kk
      rw [k2]
      exact kk h3 (by show d.now ≤ _; omega) s3
  refine Lp.intro (fun (m:Int) h=>∃ (n:Nat) (d:KK),m = 5000 - n∧n ≤ 5000∧KK.drain c n d = KK.drain c 5000 k∧d.now ≤ k.now + (5000 - n)∧aG (cL x d::l) h) (fun m _=>(5000 - m).toNat) ⟨5000,k,rfl,Nat.le_refl _,rfl,by omega,st⟩ ?_
  rintro m h1 ⟨n,d,rfl,hm,e,hd,s1⟩
  unfold gn
  refine aX (fun k1=>?_) (fun k1=>?_)
  · have hlt:0 < n:=by have:=of_decide_eq_true k1; omega
    obtain ⟨n,rfl⟩:∃ j,n = j + 1:=⟨n - 1,by omega⟩
    refine bO (i:=0) (sp_kern_Mail x d c) rfl s1 fun r h2 hr s2=>?_
    subst hr
    refine aX (fun k2=>?_) (fun k2=>?_)
    · have k2':0 < KK.mail d c:=of_decide_eq_true k2
      refine bO (i:=0) (sp_kern_Post x d c (by omega)) rfl s2 fun r h3 hr s3=>?_
      have n1:=kern_n0 s2
      have n2:=KK.post_now n1.1 (by omega) c
      have hw:IntKind.i64.wrap ((5000:Int) - ((n + 1:Nat):Int) + 1) = 5000 - (n:Int):=by rw [bN (by omega) (by omega)]; omega
      rw [hw]
      refine ⟨⟨n,_,rfl,by omega,?_,by omega,s3⟩,by show (5000 - (5000 - (n:Int))).toNat < (5000 - (5000 - ((n + 1:Nat):Int))).toNat; omega⟩
      rw [← e]
      exact (if_pos k2').symm
    · have k2':¬ 0 < KK.mail d c:=of_decide_eq_false k2
      exact hj d h2 (by rw [← e]; exact if_neg k2') (by omega) s2
  · have hz:n = 0:=by have:=of_decide_eq_false k1; omega
    subst hz
    exact hj d h1 e.symm (by omega) s1
theorem settle_l2 {Rec2:Int→Hp→Prop} {K:Bool→Hp→Prop} {k:KK} {m:Int} {cores:Nat} {h:Hp} (hc:cores ≤ 8) (hn:k.now + cores * 5001 < 2 ^ 37) (st:aG (cL x k::l) h)
    (kt:∀ h',(KK.sweep cores 0 k false).2 = false→(KK.sweep cores 0 k false).1.now ≤ k.now + cores * 5001→aG (cL x (KK.sweep cores 0 k false).1::l) h'→K true h')
    (kf:∀ h',(KK.sweep cores 0 k false).2 = true→(KK.sweep cores 0 k false).1.now ≤ k.now + cores * 5001→aG (cL x (KK.sweep cores 0 k false).1::l) h'→Rec2 (IntKind.i64.wrap (m + 1)) h') :
    Lp (gq x cores K Rec2 m) (false,0) h:=by
  refine Lp.intro (fun (s:Bool × Int) h=>∃ (n:Nat) (d:KK),s.2 = (cores:Int) - n∧n ≤ cores∧KK.sweep n s.2 d s.1 = KK.sweep cores 0 k false∧d.now ≤ k.now + (cores - n) * 5001∧aG (cL x d::l) h) (fun s _=>cores - s.2.toNat)
    ⟨cores,k,by simp,Nat.le_refl _,rfl,by simp,st⟩ ?_
  rintro ⟨b,c⟩ h1 ⟨n,d,e0,hm,e,hd,s1⟩
  simp only at e0 e
  subst e0
  unfold gq
  refine aX (fun k1=>?_) (fun k1=>?_)
  · have hlt:0 < n:=by have:=of_decide_eq_true k1; simp only at this; omega
    obtain ⟨n,rfl⟩:∃ j,n = j + 1:=⟨n - 1,by omega⟩
    have hq:(((cores:Int) - ((n + 1:Nat):Int)) * 5001) + 5001 = ((cores:Int) - n) * 5001:=by omega
    have hq2:((cores:Int) - n) * 5001 ≤ cores * 5001:=by omega
    refine settle_l3 (by omega) (by omega) (by omega) s1 fun h' hnow s2=>?_
    have hw:(cores:Int) - ((n + 1:Nat):Int) + 1 = (cores:Int) - n:=by omega
    refine ⟨⟨n,_,hw,by omega,?_,by omega,s2⟩,?_⟩
    · rw [← e]; rfl
    · show cores - ((cores:Int) - ((n + 1:Nat):Int) + 1).toNat < cores - ((cores:Int) - ((n + 1:Nat):Int)).toNat
      omega
  · have hz:n = 0:=by have:=of_decide_eq_false k1; simp only at this; omega
    subst hz
    have e':(d,b) = KK.sweep cores 0 k false:=e
    refine aX (fun k2=>?_) (fun k2=>?_)
    · have hb:b = false:=by simpa using k2
      rw [← e'] at kt
      exact kt h1 hb (by show d.now ≤ _; simpa using hd) s1
    · have hb:b = true:=by simpa using k2
      rw [← e'] at kf
      exact kf h1 hb (by show d.now ≤ _; simpa using hd) s1
theorem settle_l4 {K:Bool→Hp→Prop} {k:KK} {cores:Nat} {h:Hp} (hc:cores ≤ 8) (st:aG (cL x k::l) h)
    (kk:∀ h',aG (cL x k::l) h'→K (!KK.anyBusy k cores 0) h'):Lp (gm x cores K) 0 h:=by
  refine Lp.intro (fun (c:Int) h=>∃ n:Nat,c = (cores:Int) - n∧n ≤ cores∧KK.anyBusy k n c = KK.anyBusy k cores 0∧aG (cL x k::l) h) (fun s _=>cores - s.toNat) ⟨cores,by simp,Nat.le_refl _,rfl,st⟩ ?_
  rintro c h1 ⟨n,rfl,hm,e,s1⟩
  unfold gm
  refine aX (fun k1=>?_) (fun k1=>?_)
  · have hlt:0 < n:=by have:=of_decide_eq_true k1; omega
    obtain ⟨n,rfl⟩:∃ j,n = j + 1:=⟨n - 1,by omega⟩
    refine bO (i:=0) (og x k _) rfl s1 fun r h2 hr s2=>?_
    subst hr
    have e':(KK.busy k ((cores:Int) - ((n + 1:Nat):Int)) || KK.anyBusy k n ((cores:Int) - ((n + 1:Nat):Int) + 1)) = KK.anyBusy k cores 0:=e
    refine aX (fun k2=>?_) (fun k2=>?_)
    · rw [k2,Bool.true_or] at e'
      rw [← e'] at kk
      exact kk h2 s2
    · rw [k2,Bool.false_or] at e'
      have hw:IntKind.i64.wrap ((cores:Int) - ((n + 1:Nat):Int) + 1) = (cores:Int) - ((n + 1:Nat):Int) + 1:=bN (by omega) (by omega)
      rw [hw]
      refine ⟨⟨n,by omega,by omega,e',s2⟩,by omega⟩
  · have hz:n = 0:=by have:=of_decide_eq_false k1; omega
    subst hz
    have e':false = KK.anyBusy k cores 0:=e
    rw [← e'] at kk
    exact kk h1 s1
end
theorem sp_Settle (x:Ptr) (k:KK) (cores most:Nat) (hc:cores ≤ 8) (hm:most ≤ 1000) (hn:k.now < 2 ^ 36):Sp Tryz.prog fu [pv x,.int .i64 cores,.int .i64 most] aB [cL x k]
    (fun r=>pa_ (r = (KK.settle cores most k).1∧(KK.settle cores most k).2.now ≤ k.now + most * 40008) [cL x (KK.settle cores most k).2]):=by
  intro h st
  refine uG _ _ _ ?_
  unfold nD
  refine Lp.intro (fun (m:Int) h=>∃ (n:Nat) (d:KK),m = (most:Int) - n∧n ≤ most∧KK.settle cores n d = KK.settle cores most k∧d.now ≤ k.now + (most - n) * 40008∧aG [cL x d] h) (fun m _=>most - m.toNat)
    ⟨most,k,by simp,Nat.le_refl _,rfl,by simp,st⟩ ?_
  rintro m h1 ⟨n,d,rfl,hnm,e,hd,s1⟩
  unfold jz
  have hq:((most:Int) - n) * 40008 ≤ 1000 * 40008:=by omega
  have hq2:(cores:Int) * 5001 ≤ 40008:=by omega
  refine aX (fun k1=>?_) (fun k1=>?_)
  · have hlt:0 < n:=by have:=of_decide_eq_true k1; omega
    obtain ⟨n,rfl⟩:∃ j,n = j + 1:=⟨n - 1,by omega⟩
    have e':(if (KK.sweep cores 0 d false).2 = false then (true,(KK.sweep cores 0 d false).1) else KK.settle cores n (KK.sweep cores 0 d false).1) = KK.settle cores most k:=e
    refine settle_l2 hc (by omega) s1 (fun h' hb hnow s2=>?_) (fun h' hb hnow s2=>?_)
    · rw [if_pos hb] at e'
      rw [← e']
      exact aW ⟨rfl,by show (KK.sweep cores 0 d false).1.now ≤ _; omega⟩ s2
    · rw [if_neg (by rw [hb]; decide)] at e'
      have hw:IntKind.i64.wrap ((most:Int) - ((n + 1:Nat):Int) + 1) = (most:Int) - n:=by rw [bN (by omega) (by omega)]; omega
      rw [hw]
      exact ⟨⟨n,_,rfl,by omega,e',by omega,s2⟩,by omega⟩
  · have hz:n = 0:=by have:=of_decide_eq_false k1; omega
    subst hz
    have e':(!KK.anyBusy d cores 0,d) = KK.settle cores most k:=e
    refine settle_l4 hc s1 fun h' s2=>?_
    rw [← e']
    exact aW ⟨rfl,by show d.now ≤ _; simpa using hd⟩ s2
theorem run_yes {k:KK} {core env:Int} {c:df} {d e:KK} (h1:(KK.begin_ k core env c) = (true,d)) (h2:KK.settle 8 1000 d = (true,e)):KK.run k core env c = (KK.lastA core e.events e.events.length,e):=by
  unfold KK.run
  rw [h1]
  dsimp only
  rw [if_neg (by decide),h2]
  dsimp only
  rw [if_neg (by decide)]
theorem run_l1 {s:Sl} {es:List bj} {l:List As} {core:Int} {K:eJ × Bool→Hp→Prop} {h:Hp} (hb:es.length < 2 ^ 38) (st:aG (vE s es::l) h)
    (kk:∀ h',aG (vE s es::l) h'→K (KK.lastA core es es.length) h'):Lp (ga core K s) (IntKind.i64.wrap ((s.len:Int) - 1),⟨0,0⟩) h:=by
  have hl:=(ch (j:=0) st rfl).1
  have hw0:IntKind.i64.wrap ((s.len:Int) - 1) = (es.length:Int) - 1:=by rw [hl,bN (by omega) (by omega)]
  rw [hw0]
  refine Lp.intro (fun (z:Int × eJ) h=>∃ n:Nat,z = ((n:Int) - 1,⟨0,0⟩)∧n ≤ es.length∧KK.lastA core es n = KK.lastA core es es.length∧aG (vE s es::l) h) (fun z _=>(z.1 + 1).toNat) ⟨_,rfl,Nat.le_refl _,rfl,st⟩ ?_
  rintro _ h1 ⟨n,rfl,hn,e,s1⟩
  unfold ga
  refine aX (fun k1=>?_) (fun k1=>?_)
  · have hlt:0 < n:=by have:=of_decide_eq_true k1; simp only at this; omega
    obtain ⟨n,rfl⟩:∃ j,n = j + 1:=⟨n - 1,by omega⟩
    have hn':n < es.length:=by omega
    have hi:((n + 1:Nat):Int) - 1 = (n:Int):=by omega
    simp only [hi]
    have e':(match es[n]? with
      | some e=>if e.fCore = core then (e.fAnswer,decide (e.fEnd > 0)) else KK.lastA core es n
      | none=>(⟨0,0⟩,false)) = KK.lastA core es es.length:=e
    rw [aF hn'] at e'
    simp only at e'
    refine dy s1 (j:=0) rfl (by omega) (by show (n:Int) < _; omega) fun q hq=>?_
    have lk:∀ {σ:Type} {enc:σ→List Value} {K:σ→Hp→Prop} (y:σ) (o:Nat),(∀ i v,(enc y)[i]? = some v→(es[n].C)[o + i]? = some v)→K y h1→ld (q.1,q.2 + Int.toNat (n:Int) * 16 + o) enc K h1:=by
      intro σ enc K y o he k
      exact eu (j:=0) (i:=n) (k:=o) y mv s1 rfl hq (by simp) (aF hn') he k
    refine lk es[n].fCore 0 (fun i v hv=>?_) ?_
    · rcases i with _ | i <;> first | exact hv | simp [cI] at hv
    refine aX (fun k2=>?_) (fun k2=>?_)
    · have k2':es[n].fCore = core:=by simpa using k2
      rw [if_pos k2'] at e'
      have hA:∀ i v,(ab.C es[n].fAnswer)[i]? = some v→(es[n].C)[10 + i]? = some v:=by
        intro i v hv
        rcases i with _ | _ | i <;> first | exact hv | simp [ab.C] at hv
      have hE:∀ i v,((cI .i64) es[n].fEnd)[i]? = some v→(es[n].C)[9 + i]? = some v:=by
        intro i v hv
        rcases i with _ | i <;> first | exact hv | simp [cI] at hv
      refine ⟨lk _ 10 hA (lk _ 9 hE ?_),lk _ 9 hE (lk _ 10 hA ?_)⟩
      · rw [e']; exact kk h1 s1
      · rw [e']; exact kk h1 s1
    · have k2':¬ es[n].fCore = core:=by simpa using k2
      rw [if_neg k2'] at e'
      rw [bN (by omega) (by omega)]
      exact ⟨⟨n,rfl,by omega,e',s1⟩,by show ((n:Int) - 1 + 1).toNat < ((n:Int) + 1).toNat; omega⟩
  · have hz:n = 0:=by have:=of_decide_eq_false k1; simp only at this; omega
    subst hz
    have e':((⟨0,0⟩,false):eJ × Bool) = KK.lastA core es es.length:=e
    rw [← e'] at kk
    exact kk h1 s1
theorem run_no {k:KK} {core env:Int} {c:df} {d e:KK} (h1:(KK.begin_ k core env c) = (true,d)) (h2:KK.settle 8 1000 d = (false,e)):KK.run k core env c = ((⟨0,0⟩,false),e):=by
  unfold KK.run
  rw [h1]
  dsimp only
  rw [if_neg (by decide),h2]
  dsimp only
  rw [if_pos rfl]
theorem run_tail (x:Ptr) (k:KK) (core env:Int) (c:df) (d:KK) (h1:KK.begin_ k core env c = (true,d)) (hn:d.now ≤ k.now + 1) (hk:k.now < 2 ^ 35) {h:Hp} (s1:aG [cL x d] h) :
    (cl Tryz.prog fu [(pv x),(.int .i64 8),(.int .i64 1000)] aB fun r20 =>
      br (!r20) ((fun r h'=>pa_ (r = (KK.run k core env c).1∧(KK.run k core env c).2.now ≤ k.now + 40008001) [cL x (KK.run k core env c).2] h') (⟨0,0⟩,false)) (
      cl Tryz.prog eP [(pv x)] dQ fun r24 =>
      Lp (ga core (fun r h'=>pa_ (r = (KK.run k core env c).1∧(KK.run k core env c).2.now ≤ k.now + 40008001) [cL x (KK.run k core env c).2] h') r24) ((IntKind.i64.wrap ((r24.len:Int) - 1)),(⟨0,0⟩:ab)))) h:=by
  have c8:=sp_Settle x d 8 1000 (Nat.le_refl _) (Nat.le_refl _) (by omega)
  generalize hz:KK.settle 8 1000 d = z at c8
  obtain ⟨b,e⟩:=z
  refine bO (i:=0) c8 rfl s1 fun r h2 hr s2=>?_
  obtain ⟨hr,hs⟩:=hr
  have hs':e.now ≤ d.now + 40008000:=hs
  have n2:=kern_n0 s2
  have hr':r = b:=hr
  rw [hr']
  cases b
  · rw [run_no h1 hz]
    exact dI rfl (aW ⟨rfl,by show e.now ≤ _; omega⟩ s2)
  · refine dr rfl ?_
    refine vS (i:=0) (oe x _ (by show e.now < _; omega)) rfl s2 fun s h3 s3=>?_
    refine run_l1 (by show e.events.length < _; have:(e.events.length:Int) ≤ e.now:=n2.2; omega) s3 fun h4 s4=>?_
    rw [run_yes h1 hz]
    exact aW ⟨rfl,by show e.now ≤ _; omega⟩ (bZ (l:=[_]) s4)
theorem sp_Run (x:Ptr) (k:KK) (core env:Int) (c:df) (hn:k.now < 2 ^ 35):Sp Tryz.prog dK [pv x,.int .i64 core,.int .i64 env,.agg c.C.toArray] bg [cL x k]
    (fun r=>pa_ (r = (KK.run k core env c).1∧(KK.run k core env c).2.now ≤ k.now + 40008001) [cL x (KK.run k core env c).2]):=by
  intro h st
  have n0:=kern_n0 st
  have nb:=KK.begin_now n0.1 (by omega) core env c
  refine sim_messuagelaw16_Run _ _ _ _ ?_
  unfold qG
  refine bO (i:=0) (sp_kern_Begin x k core env c (by omega)) rfl st fun r h1 hr s1=>?_
  subst hr
  refine aX (fun k1=>?_) (fun k1=>?_)
  · have k1':(KK.begin_ k core env c).1 = false:=by simpa using k1
    have e:KK.run k core env c = ((⟨0,0⟩,false),(KK.begin_ k core env c).2):=if_pos k1'
    rw [e]
    exact aW ⟨rfl,by show (KK.begin_ k core env c).2.now ≤ _; omega⟩ s1
  · have k1':(KK.begin_ k core env c).1 = true:=by simpa using k1
    exact run_tail x k core env c (KK.begin_ k core env c).2 (by rw [← k1']) (by omega) hn s1
end Go.Proofs.YtniiiakkdoiaiaaGreatDoor
