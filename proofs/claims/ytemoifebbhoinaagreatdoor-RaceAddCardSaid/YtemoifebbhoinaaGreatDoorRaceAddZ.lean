/- The law RaceAdd returns true for every input, and leaves its arguments as they were. -/
import Derived.Test.YtemoifebbhoinaaGreatDoorRaceAdd16
import Derived.Test.YtemoifebbhoinaaGreatDoorCards
import Derived.Test.YtemoifebbhoinaaGreatDoorTie
set_option linter.all false
set_option maxRecDepth 20000
namespace Go.Proofs.YtemoifebbhoinaaGreatDoor
open Go.Proofs.Tryz
open Go.IntKind (i64 u64)
open _root_.List (getElem_mem replicate)
open _root_.Nat (zero_le)
section
open Go Mb
variable {ET:Nat} {EF:Nat × Nat}
def tI:List Int->Int
 | []=>0
 | x::l=>x + tI l
theorem isum_set:∀ {l:List Int} {i:Nat} {x y:Int},l[i]? = some x->tI (l.set i y) + x = tI l + y
 | [],i,x,y,h=>by simp at h
 | a::l,0,x,y,h=>by
  simp at h; subst h
  simp only [List.set_cons_zero,tI]; omega
 | a::l,i + 1,x,y,h=>by
  have ih:=isum_set (l:=l) (i:=i) (x:=x) (y:=y) (by simpa using h)
  simp only [List.set_cons_succ,tI]; omega
theorem isum_take:∀ {l:List Int} {i:Nat} {x:Int},l[i]? = some x->tI (l.take (i + 1)) = tI (l.take i) + x
 | [],i,x,h=>by simp at h
 | a::l,0,x,h=>by
  simp at h; subst h
  simp [tI]
 | a::l,i + 1,x,h=>by
  have ih:=isum_take (l:=l) (i:=i) (x:=x) (by simpa using h)
  simp only [List.take_succ_cons,tI]; omega
theorem isum_nn:∀ {l:List Int},(∀ x ∈ l,0 <= x)->0 <= tI l
 | [],_=>Int.le_refl _
 | a::l,h=>by
  have:=isum_nn (l:=l) fun x hx=>h x (by simp [hx])
  have:=h a (by simp)
  simp only [tI]; omega
theorem isum_le:∀ {l:List Int} {b:Int},(∀ x ∈ l,x <= b)->tI l <= b * l.length
 | [],b,_=>by simp [tI]
 | a::l,b,h=>by
  have h1:=isum_le (l:=l) (b:=b) fun x hx=>h x (by simp [hx])
  have h2:=h a (by simp)
  have h3:b * ((a::l).length:Int) = b + b * (l.length:Int):=by
   rw [List.length_cons,show ((l.length + 1:Nat):Int) = 1 + (l.length:Int) by omega,Int.mul_add,Int.mul_one]
  rw [h3]
  simp only [tI]; omega
theorem isum_rep (n:Nat):tI (replicate n 0) = 0:=by
 induction n with
 | zero=>rfl
 | succ n ih=>rw [List.replicate_succ,tI,ih]; rfl
open Adds in
theorem sp_RaceAdd (c g:Int) (s:Sl) (xs:List Int):Sp prog nO [.int .i64 c,.int .i64 g,sv s] aB [etB ET EF,vI s xs] (fun r=>pa_ (r = true) [etB ET EF,vI s xs]):=by
 intro h st
 refine tF _ _ _ ?_
 unfold mR
 refine bQ (i:=0) sp_begun16 rfl st fun r h1 hr s1=>?_
 subst hr
 refine dp rfl ?_
 have m1:=mod_in c (n:=5) (by decide)
 have m2:=mod_in g (n:=4) (by decide)
 have hw1:i64.wrap (2 + (i64.wrap (c.tmod 5 + 5)).tmod 5) = 2 + (i64.wrap (c.tmod 5 + 5)).tmod 5:=bN (by omega) (by omega)
 have hw2:i64.wrap (1 + (i64.wrap (g.tmod 4 + 4)).tmod 4) = 1 + (i64.wrap (g.tmod 4 + 4)).tmod 4:=bN (by omega) (by omega)
 obtain ⟨n,hn⟩:∃ n:Nat,2 + (i64.wrap (c.tmod 5 + 5)).tmod 5 = n:=⟨(2 + (i64.wrap (c.tmod 5 + 5)).tmod 5).toNat,by omega⟩
 obtain ⟨f,hf⟩:∃ f:Int,1 + (i64.wrap (g.tmod 4 + 4)).tmod 4 = f:=⟨_,rfl⟩
 have hn2:2 <= n/\n <= 6:=by omega
 have hf2:1 <= f/\f <= 4:=by omega
 rw [hw1,hn]
 have F:=fine n (by omega)
 refine lJ (sp_shared (sz n) 0 F.sh) s1 fun x h2 s2=>?_
 refine dp (kern_nn s2) ?_
 have s2:aE [cE x (kk n),etB ET EF,vI s xs] h2:=s2
 have hl:=(ci (j:=2) s2 rfl).1
 have C:=calm3 (n:=n) F.sh.sz
 have hnow0:=C.now
 have hep0:=C.ep
 refine lD (τ:=Int) (enc:=cI .i64) (x0:=0) (n:=n) xA rfl s2 (by omega) (by omega) fun v h3 s3=>?_
 have s3:aE [vI v (replicate n 0),cE x (kk n),etB ET EF,vI s xs] h3:=s3
 refine Lp.intro (fun (i:Int) h=>∃ (a m:Nat) (k:KK) (ds:List Int),i = a/\a <= xs.length/\a <= 120/\Q n m k/\ds.length = n/\(∀ d ∈ ds,0 <= d/\d <= 4)/\tI ds = m/\k.now <= 3 * 120100 + a/\k.fFa.1.length <= 72 + a/\aE [vI v ds,cE x k,etB ET EF,vI s xs] h) (fun (i:Int) _=>xs.length - i.toNat) ⟨0,0,kk n,replicate n 0,rfl,zero_le _,zero_le _,q0 F,by simp,fun d hd=>by rw [List.eq_of_mem_replicate hd]; decide,isum_rep n,by omega,by omega,s3⟩ ?_
 rintro i h4 ⟨a,m,k,ds,rfl,ha,ha1,H,hdl,hds,hsum,hk,hep,s4⟩
 have hvl:=(ci (j:=0) s4 rfl).1
 have hm30:m <= 24:=by
  have h1:=isum_le (l:=ds) (b:=4) fun d hd=>(hds d hd).2
  rw [hdl,hsum] at h1
  omega
 have hcl:(k.calls.length:Int) = n:=by
  obtain ⟨w,j⟩:=H.j
  have h1:=H.inv.ok.cl
  rw [j.s] at h1
  exact h1
 unfold jk
 rw [hw1,hn,hw2,hf]
 refine aY (fun d=>?_) (fun d=>?_)
 ·have hc:a < xs.length/\a < 120:=by rw [hl] at d; simp at d; omega
  have hlt:=hc.1
  have hw:i64.wrap ((a:Int) + 1) = ((a + 1:Nat):Int):=by rw [bN (by omega) (by omega)]; rfl
  refine dn s4 (j:=3) rfl (by omega) (by omega) fun q hq=>?_
  refine dT (j:=3) (i:=a) (k:=0) xs[a] (cR _) s4 rfl hq rfl (aD hlt) (by simp) ?_
  refine ⟨by omega,?_⟩
  have mc:=mod_in xs[a] (n:=(n:Int)) (by omega)
  obtain ⟨e,he⟩:∃ e:Nat,(i64.wrap (xs[a].tmod n + n)).tmod n = e:=⟨((i64.wrap (xs[a].tmod n + n)).tmod n).toNat,by omega⟩
  rw [he] at mc
  rw [he,hw]
  have hel:e < ds.length:=by omega
  refine bQ (i:=1) (lQ x k e) rfl s4 fun r h5 hr s5=>?_
  have s5:aE [vI v ds,cE x k,etB ET EF,vI s xs] h5:=s5
  refine aY (fun b1=>?_) (fun b1=>?_)
  ·refine bQ (i:=1) (sp_kern_Step x k e (by omega)) rfl s5 fun _ h6 _ s6=>?_
   have hb:=KK.step_now H.inv.ok.n0 (by omega) e
   have hs:=H.step (by omega) (e:Int)
   have hepn:=step_ep H.toIE (by omega) (e:Int)
   exact ⟨⟨a + 1,m,_,ds,rfl,hlt,by omega,hs,hdl,hds,hsum,by omega,by omega,s6⟩,by simp; omega⟩
  ·refine dn s5 (j:=0) rfl (by omega) (by omega) fun q1 hq1=>?_
   refine dT (j:=0) (i:=e) (k:=0) ds[e] (cR _) s5 rfl hq1 (by rw [Int.toNat_natCast]; rfl) (aD hel) (by simp) ?_
   have hde:=hds ds[e] (getElem_mem hel)
   refine aY (fun b2=>?_) (fun b2=>?_)
   ·have hlt4:ds[e] < f:=of_decide_eq_true b2
    refine bQ (i:=1) (sp_kern_Begin x k e 0 ad (by omega)) rfl s5 fun r6 h6 hr6 s6=>?_
    have hb:=KK.begin_now H.inv.ok.n0 (by omega) e 0 ad
    have hB:=H.begin (by omega) (by omega) (e:Int)
    have hepb:=begin_ep k e 0 ad
    have s6:aE [vI v ds,cE x (KK.begin_ k e 0 ad).2,etB ET EF,vI s xs] h6:=s6
    rw [← hr6] at hB
    unfold eI
    rw [hw1,hn,he,hw]
    refine aY (fun b3=>?_) (fun b3=>?_)
    ·rw [b3] at hB
     refine dn s6 (j:=0) rfl (by omega) (by omega) fun q2 hq2=>?_
     refine dT (j:=0) (i:=e) (k:=0) ds[e] (cR _) s6 rfl hq2 (by rw [Int.toNat_natCast]; rfl) (aD hel) (by simp) ?_
     have hw3:i64.wrap (ds[e] + 1) = ds[e] + 1:=bN (by omega) (by omega)
     rw [hw3]
     refine st_v (j:=0) (i:=e) (k:=0) (ds[e] + 1) (cR _) s6 rfl hq2 (by rw [Int.toNat_natCast]; rfl) (aD hel) (by simp) rfl fun h7 s7=>?_
     have hs2:=isum_set (y:=ds[e] + 1) (aD hel)
     refine ⟨⟨a + 1,m + 1,_,ds.set e (ds[e] + 1),rfl,hlt,by omega,by simpa using hB,by rw [List.length_set]; exact hdl,fun y hy=>?_,by omega,by omega,by rw [hepb]; omega,s7⟩,by simp; omega⟩
     rcases List.mem_or_eq_of_mem_set hy with h8 | h8
     ·exact hds y h8
     ·rw [h8]; omega
    ·rw [b3] at hB
     exact ⟨⟨a + 1,m,_,ds,rfl,hlt,by omega,by simpa using hB,hdl,hds,hsum,by omega,by rw [hepb]; omega,s6⟩,by simp; omega⟩
   ·unfold eI
    rw [hw1,hn,he,hw]
    refine dp rfl ?_
    exact ⟨⟨a + 1,m,k,ds,rfl,hlt,by omega,H,hdl,hds,hsum,by omega,by omega,s5⟩,by simp; omega⟩
 ·have S:=sT (m:=997) (closed (n:=n) (m:=m)) (cores:=n) H (by omega) (by omega) (by omega) (by omega) H.awake
  refine bQ (i:=1) (sp_Settle x k n 1000 (by omega) (Nat.le_refl _) (by omega)) rfl s4 fun r h6 hr s6=>?_
  have hr1:r = (KK.settle n (997 + 3) k).1:=hr.1
  rw [S.1] at hr1
  subst hr1
  refine dp rfl ?_
  have s6:aE [vI v ds,cE x (KK.settle n (997 + 3) k).2,etB ET EF,vI s xs] h6:=s6
  have H':=S.2.all
  have hid:=S.2.idle
  have hno:=S.2.now
  have how:=S.2.own
  have hsl:=S.2.len
  generalize (KK.settle n (997 + 3) k).2 = k' at s6 H' hid hno how hsl
  have hen:=H'.toIE.ended hid
  have hJ:=H'.all hid
  have hno':k'.now <= 3 * 120100 + 120 + 3 * (6 * 5001):=by omega
  refine Lp.intro (fun (z:Int × Int) h=>∃ t:Nat,z = (tI (ds.take t),(t:Int))/\t <= n/\aE [vI v ds,cE x k',etB ET EF,vI s xs] h) (fun (z:Int × Int) _=>n - z.2.toNat) ⟨0,rfl,zero_le _,s6⟩ ?_
  rintro z h7 ⟨t,rfl,ht,s7⟩
  unfold jj
  refine aY (fun d2=>?_) (fun d2=>?_)
  ·have hlt:t < ds.length:=by rw [hvl] at d2; simpa using d2
   have hw:i64.wrap ((t:Int) + 1) = ((t + 1:Nat):Int):=by rw [bN (by omega) (by omega)]; rfl
   have hd:=hds ds[t] (getElem_mem hlt)
   have h0:0 <= tI (ds.take t):=isum_nn fun y hy=>(hds y (List.mem_of_mem_take hy)).1
   have h1:=isum_le (l:=ds.take t) (b:=4) fun y hy=>(hds y (List.mem_of_mem_take hy)).2
   have h2:(ds.take t).length <= ds.length:=by rw [List.length_take]; omega
   refine dn s7 (j:=0) rfl (by show (0:Int) <= t; omega) (by show (t:Int) < ds.length; omega) fun q hq=>?_
   refine dT (j:=0) (i:=t) (k:=0) ds[t] (cR _) s7 rfl hq rfl (aD hlt) (by simp) ?_
   have e1:u64.wrap (tI (ds.take t) + u64.wrap ds[t]) = tI (ds.take (t + 1)):=by
    rw [wrapU (n:=ds[t]) (by omega) (by omega),wrapU (by omega) (by omega),isum_take (aD hlt)]
   refine ⟨⟨t + 1,?_,by omega,s7⟩,by simp; omega⟩
   simp only [hw,e1]
  ·have htn:t = n:=by rw [hvl] at d2; simp at d2; omega
   have hts:tI (ds.take t) = m:=by rw [htn,← hdl,List.take_length,hsum]
   rw [hts]
   refine makeMap_L (val:=fun x:Bool=>.bool x) .u64 rfl s7 fun b h8 s8=>?_
   refine xB (i:=2) (sF x k' (by omega)) rfl s8 fun u h9 s9=>?_
   have hul:=(ci (j:=0) s9 rfl).1
   have s9:aE [vE u k'.events,mapL .u64 b (fun x:Bool=>.bool x) [],vI v ds,cE x k',etB ET EF,vI s xs] h9:=s9
   have hevl:=H'.inv.ok.evn
   refine Lp.intro (fun (z:Int) h=>∃ t:Nat,z = t/\t <= k'.events.length/\aE [vE u k'.events,mapL .u64 b (fun x:Bool=>.bool x) (((k'.events.take t).filter pJ).map fun e=>(e.fVa.fHb,true)),vI v ds,cE x k',etB ET EF,vI s xs] h) (fun (z:Int) _=>k'.events.length - z.toNat) ⟨0,rfl,zero_le _,s9⟩ ?_
   rintro z h10 ⟨t2,rfl,ht2,s10⟩
   unfold ji
   refine aY (fun d3=>?_) (fun d3=>?_)
   ·have hlt:t2 < k'.events.length:=by rw [hul] at d3; simpa using d3
    have hw:i64.wrap ((t2:Int) + 1) = ((t2 + 1:Nat):Int):=by rw [bN (by omega) (by omega)]; rfl
    have htk:k'.events.take (t2 + 1) = k'.events.take t2++[k'.events[t2]]:=by rw [List.take_append_getElem]
    refine dn s10 (j:=0) rfl (by omega) (by omega) fun q hq=>?_
    refine dT (j:=0) (i:=t2) (k:=0) k'.events[t2] mE s10 rfl hq rfl (aD hlt) (by simp) ?_
    rw [hw]
    refine aY (fun d4=>?_) (fun d4=>?_)
    ·have hia:pJ k'.events[t2] = true:=d4
     have hdid:did k'.events[t2] = true:=by
      unfold did
      rw [hia]
      simpa using (hen _ (getElem_mem hlt)).2
     have hv:=hJ.val t2 _ (aD hlt) hdid
     have hnot:k'.events[t2].fVa.fHb ∉ (((k'.events.take t2).filter pJ).map fun e=>(e.fVa.fHb,true)).map (·.1):=by
      rw [List.map_map]
      intro hm
      obtain ⟨y,hy,hye⟩:=List.mem_map.1 hm
      obtain ⟨hy1,hy2⟩:=List.mem_filter.1 hy
      obtain ⟨j,hj,hjy⟩:=List.getElem_of_mem hy1
      rw [List.length_take] at hj
      rw [List.getElem_take] at hjy
      have hjd:did k'.events[j] = true:=by
       unfold did
       rw [hjy,hy2]
       simpa using (hen _ (List.mem_of_mem_take hy1)).2
      have:=hJ.apart j t2 _ _ (aD (by omega)) (aD hlt) hjd hdid (by rw [hjy]; exact hye)
      omega
     refine dN (by rw [hv.1]; rfl) ?_
     refine lookup_L (j:=1) tg s10 rfl false ?_ ?_
     ·rw [fi_none hnot]; rfl
     ·refine dp (by simp; omega) ?_
      refine update_L (j:=1) (w:=true) tg s10 rfl rfl hnot fun h11 s11=>?_
      refine ⟨⟨t2 + 1,rfl,hlt,?_⟩,by simp; omega⟩
      rw [htk,List.filter_append,List.map_append,List.filter_cons_of_pos hia]
      exact s11
    ·have hia:pJ k'.events[t2] = false:=d4
     refine ⟨⟨t2 + 1,rfl,hlt,?_⟩,by simp; omega⟩
     rw [htk,List.filter_append,List.filter_cons_of_neg (by rw [hia]; simp),List.filter_nil,List.append_nil]
     exact s10
   ·refine bQ (i:=3) (sp_Run x k' 0 0 ld (by omega)) rfl s10 fun r h11 hr s11=>?_
    have hR:Rest (sz n) (3 * 120100 + 120 + 3 * (6 * 5001)) 400 k':=⟨H'.toAll,hJ.s,hid,hno',by omega⟩
    have e1:=run_ldd hJ hR (by decide) (by decide) (by omega)
    have e2:r = (⟨0,(m:Int)⟩,true):=hr.1.trans e1
    subst e2
    exact aX (by simp [ab.eqb]) (cd (l:=[_,_,_,_]) s11)
end
section
open Go Mb Go.ChangeShapes Go.WideShapes Go.RowKit
theorem decRaceAdd3 (cs:List Value) (h:tK [.i .i64] cs):∃ x:{x:Int // tK [.i .i64] ((cI .i64) x)},(cI .i64) x.1 = cs:=by
 have h0:=h
 obtain ⟨a0,r0,rfl,_,h⟩:=fit_i h
 obtain rfl:=fit_nil h
 exact ⟨⟨a0,h0⟩,rfl⟩
set_option maxRecDepth 100000 in
theorem lifted_6 (os:Os) (started:os.Started) (H:Type) (enc:TypeId × Value->H) :
  ReturnsInHanded {} Tryz.checked os 6 .any (fun w args=>(Rows.raceAddSpec.pre enc prog Tryz.f6 [] false w args/\laidMetH prog laid w)/\sizedMet enc prog Tryz.f6 (OpenSpec.ofChange Rows.raceAddSpec) false w args)
   (Rows.raceAddSpec.post enc prog Tryz.f6 false true false false):=by
 refine returnsInHanded_of_change_and (C:=Tryz.checked) (X:=fun w _=>laidMetH prog laid w) (fun _ _ _ hh h=>h.of_heap hh) Tryz.own started (by kernel_rfl) func6
  (ChangeSpec.witness_at (enc:=enc) (C:=Tryz.checked) (os:=os) (X:=fun w _=>laidMetH prog laid w) false (laidWorld os) #[.int .i64 0,.int .i64 0,.slice none 0 0] 8 rfl (by kernel_rfl) (by kernel_rfl) (by kernel_rfl) (by kernel_rfl) (by kernel_rfl) (laidWorld_met os _)) ?_
 intro W base args ds gs before hval0 hW _ _ hL _
 have hval:∀ (j:Nat) t v,Tryz.f6.params[j]? = some t->args[j]? = some v->Value.okWide prog W .any base t v:=hval0
 have hW':=hW
 obtain ⟨p,q,hA0,hV0,rfl,hfz,hnd⟩:=hW
 have hA:DataW.TrodAll enc prog W 0 (fun _=>true) true Tryz.f6.params.toList args.toList ds p:=hA0
 have hV:DataW.TrodVars enc prog W (fun _=>true) [] gs q:=hV0
 rw [Tryz.params6] at hA hval
 have hst:=hA
 obtain ⟨T,F,hb⟩:=block_of_laid hL
 obtain ⟨rfl,rfl⟩:gs = []/\q = []:=by
  cases gs with
  | nil=>exact ⟨rfl,hV⟩
  | cons g r=>exact absurd hV (by intro h; cases h)
 obtain ⟨v0,w0,d0,e0,p0,q0,hx0,rfl,rfl,h0,hA0⟩:=trodAll_cons hA
 obtain ⟨v1,w1,d1,e1,p1,q1,hx1,rfl,rfl,h1,hA1⟩:=trodAll_cons hA0
 obtain ⟨v2,w2,d2,e2,p2,q2,hx2,rfl,rfl,h2,hA2⟩:=trodAll_cons hA1
 obtain ⟨hy,rfl,rfl⟩:=trodAll_nil hA2
 subst hy
 subst hx2
 subst hx1
 obtain rfl:args = #[v0,v1,v2]:=by apply Array.ext'; exact hx0
 obtain ⟨n0,rfl,rfl,rfl,hw0⟩:=open_int underlying3 (hval 0 3 v0 rfl rfl) h0
 obtain ⟨n1,rfl,rfl,rfl,hw1⟩:=open_int underlying3 (hval 1 3 v1 rfl rfl) h1
 obtain ⟨s2,ys2,rfl,A2⟩:=open_arg (m:=1) (ks:=[.i .i64]) (enc':=fun x:{x:Int // tK [.i .i64] ((cI .i64) x)}=>(cI .i64) x.1) underlying39 (by kernel_rfl) (by kernel_rfl) (by decide) decRaceAdd3 (hval 2 39 v2 rfl rfl) h2 (fun b o hb=>hfz b o (by simp [hb])) hb no_iface
 obtain ⟨A2,hf2⟩:=A2.sub
 generalize ys2.map (·.1) = xs2 at A2 hf2
 refine (run_spV A2 (ET:=T) (EF:=F) (sp_RaceAdd n0 n1 s2 xs2) hb).mono fun e W' ⟨he,hk⟩=>?_
 subst he
 refine ⟨_,rfl,_,_,_,[],(([]:List MemPlace)++(([]:List MemPlace)++(p2++[]))),[],hW',?_,?_,?_,keptBut_same hk.os hk.out hk.heap,fun h=>by cases h⟩
 ·exact trodAll_mk1 (shut_bool underlying4 true)
 ·exact same_post (by kernel_rfl) (by kernel_rfl) hst (fun p hp=>hW'.lt p (List.mem_append_left _ hp)) hk (fun p hp=>by simpa using hW'.lt p (List.mem_append_left _ hp))
 ·rfl
end
section
open Go Mb Go.ChangeShapes Go.WideShapes Go.RowKit
theorem jf0:Tryz.pinned.checked.prog.funcNamed Rows.raceAddRow.func = some 6:=by kernel_rfl
theorem jf1:(Rows.raceAddRow.wf (OpenSpec.ofChange Rows.raceAddSpec) && laidOutB Tryz.pinned.checked.prog && mapsRowed Tryz.pinned.checked.prog) = true:=by kernel_rfl
theorem jf2:(Tryz.f6.params.all (Tryz.pinned.checked.prog.readableRec ·) && namedTie Tryz.pinned.checked.prog Rows.raceAddRow.named Rows.raceAddSpec.vars && (Rows.raceAddRow.stops == []) && (Tryz.pinned.checked.prog.stops == []) && (Rows.raceAddRow.knobs == []) && (Tryz.pinned.checked.prog.stopKnobs == [])) = true:=by kernel_rfl
theorem jf3:(Rows.raceAddRow.inPlace == Tryz.pinned.checked.prog.inPlace 6) = true:=by kernel_rfl
theorem jf4:(Rows.raceAddRow.unfollowed == Tryz.pinned.checked.prog.unfollowed 6) = true:=by kernel_rfl
theorem jf5:(Rows.raceAddRow.recurses == Tryz.pinned.checked.prog.recurses 6) = true:=by kernel_rfl
theorem jf6:(Rows.raceAddRow.named == Tryz.pinned.checked.prog.varsNamed 6) = true:=by kernel_rfl
theorem jf7:((Rows.raceAddRow.maps == (Tryz.f6.params.toList++Rows.raceAddSpec.plain.varTypes Tryz.pinned.checked.prog).any (Tryz.pinned.checked.prog.mapsRec ·)) && (Rows.raceAddRow.ifaces == (Tryz.f6.params.toList++Rows.raceAddSpec.plain.varTypes Tryz.pinned.checked.prog).any (Tryz.pinned.checked.prog.ifacesRec ·)) && (Rows.raceAddRow.mapsOut == Tryz.pinned.checked.prog.mapsAmong Tryz.f6.resultTypes.toList) &&
 (Rows.raceAddRow.loops == (Tryz.f6.params.toList++Rows.raceAddSpec.plain.varTypes Tryz.pinned.checked.prog).any (Tryz.pinned.checked.prog.loopsFrom ·)) && (Rows.raceAddRow.wideKeys == (Tryz.f6.params.toList++Rows.raceAddSpec.plain.varTypes Tryz.pinned.checked.prog++Tryz.f6.resultTypes.toList).any (Tryz.pinned.checked.prog.wideKeysFrom ·)) &&
 Rows.raceAddSpec.vars.all (Tryz.pinned.checked.prog.varReadable ·) && Tryz.f6.resultTypes.all (fun t=>Tryz.pinned.checked.prog.readableRec t && decide (t < Tryz.pinned.checked.prog.types.size)) && (Rows.raceAddRow.ifacesOut == Tryz.f6.resultTypes.toList.any (Tryz.pinned.checked.prog.ifacesRec ·)) && (Rows.raceAddRow.loopsOut == Tryz.f6.resultTypes.toList.any (Tryz.pinned.checked.prog.loopsFrom ·))) = true:=by kernel_rfl
theorem jf8:(Rows.raceAddRow.plainKeys == Tryz.pinned.checked.prog.plainKeys) = true:=by kernel_rfl
theorem jf9:(Rows.raceAddRow.shortTexts.isNone && Tryz.pinned.checked.prog.stopsHeard && Tryz.pinned.checked.prog.mayEnter && (Rows.raceAddRow.lifted == Tryz.pinned.checked.prog.liftsFinal) && (Tryz.pinned.checked.prog.make == some Rows.raceAddRow.make) && kindsB Tryz.pinned.checked.prog Tryz.f6 Rows.raceAddRow && (Rows.raceAddRow.pinned == Rows.raceAddRow.pinnedBy) &&
 (Rows.raceAddRow.veiled == (Tryz.f6.params.toList++Rows.raceAddSpec.plain.varTypes Tryz.pinned.checked.prog++Tryz.f6.resultTypes.toList).any (Tryz.pinned.checked.prog.veiledRec ·)) && Rows.raceAddRow.veiledFits Tryz.pinned.checked.prog Tryz.f6.params.toList (Tryz.f6.params.toList++Rows.raceAddSpec.plain.varTypes Tryz.pinned.checked.prog++Tryz.f6.resultTypes.toList)) = true:=by kernel_rfl
theorem said_6:Rows.RaceAddSaid :=
 OpenClaim.holds_of_wide 6 Tryz.f6 rfl rfl rfl rfl rfl rfl rfl ⟨rfl,rfl,rfl,rfl,rfl⟩ rfl rfl rfl rfl rfl jf0 func6 (joined_split jf1 jf2 jf3 jf4 jf5 jf6 jf7 jf8 jf9)
  (of_decide_eq_true (by kernel_rfl)) (by unfold Func.isWrapper; rw [if_neg (of_decide_eq_false (by kernel_rfl))]; exact ⟨rfl,rfl⟩)
  (fun os started H enc _=>lifted_6 os started H enc)
theorem raceAdd_holds:Rows.RaceAddCardSaid :=
 Claim7.holds_tied_plain_at .later [] [.handle] true (true, "a63c83af46769ae5b2e0de3169bc55eed442217913052e397606a55bd0c0baed") true
  said_6 (fun _ h=>by cases h) (by kernel_rfl) (fun _ h=>by cases h) raceAdd_row_tie rfl ⟨rfl,rfl⟩ (by kernel_rfl) rfl
  (fun f fn hf hfn=>by
   obtain rfl:f = 6:=Option.some.inj ((show prog.funcNamed "messuage/messuagelaw16.RaceAdd" = some 6 by kernel_rfl).symm.trans hf) |>.symm
   obtain rfl:fn = Tryz.f6:=(Option.some.inj (func6.symm.trans hfn)).symm
   exact ⟨by kernel_rfl,fun j t ht=>by
    rw [Tryz.params6] at ht
    exact want_all (by kernel_rfl) (j:=j) (t:=t) ht⟩)
  (by kernel_rfl)
end
end Go.Proofs.YtemoifebbhoinaaGreatDoor
