/- The law ShootRevoke returns true for every input, and leaves its arguments as they were. -/
import Derived.Test.YtemoifebbhoinaaGreatDoorShootRevoke18
import Derived.Test.YtemoifebbhoinaaGreatDoorCards
import Derived.Test.YtemoifebbhoinaaGreatDoorTie
set_option linter.all false
set_option maxRecDepth 20000
namespace Go.Proofs.YtemoifebbhoinaaGreatDoor
open Go Mb
theorem ev_set {es:List bA} {n:Nat} {e0 e':bA} (h:es[n]? = some e0) (j:Int):Judge.ev (es.set n e') j = if j.toNat = n then e' else Judge.ev es j:=by
  have hlt:=(List.getElem?_eq_some_iff.1 h).1
  simp only [Judge.ev,List.getD_eq_getElem?_getD,List.getElem?_set]
  by_cases e:n = j.toNat
  · rw [if_pos e,if_pos e.symm,if_pos hlt]; rfl
  · rw [if_neg e,if_neg (fun x=>e x.symm)]
theorem Log.effect {k k':KK} {log:List Int} (L:Log k log) {n:Nat} {e0:bA} {a:eM} {l:jO} (h0:k.events[n]? = some e0) (hz:e0.fEffect = 0) (hlate:∀ (i:Nat) e,k.events[i]? = some e→e.fBegin < k.now∧e.fEffect < k.now) (hn:0 < k.now)
    (he:k'.events = k.events.set n (KK.evend e0 k.now a l)) (hs:k'.p.s = k.p.s) (hg:Judge.good k'.events k.p.s k.p n) (hj:Judge.jstep k'.events k.p.s k.p n = k'.p):Log k' (log++[(n:Int)]):=by
  have hlt:=(List.getElem?_eq_some_iff.1 h0).1
  have hev:=fun j=>ev_set (e':=KK.evend e0 k.now a l) h0 j
  have alike:∀ i ∈ log,Judge.Alike k.events k'.events i:=by
    intro i hi
    obtain ⟨m,e,g1,rfl,g2⟩:=(L.mem i).1 hi
    have hmn:m ≠ n:=by rintro rfl; rw [h0] at g1; cases g1; omega
    have hl:=hlate m e g1
    rw [he]
    refine ⟨by rw [hev,if_neg (by simpa using hmn)],?_,fun j _=>?_⟩
    · rw [ev_get g1]
      unfold Hist.over Hist.places
      refine placesFrom_set _ _ _ e0 _ _ h0 ?_
      show (decide (e0.fBegin ≤ e.fEffect) && (k.now == 0 || decide (k.now > e.fEffect))) = (decide (e0.fBegin ≤ e.fEffect) && (e0.fEffect == 0 || decide (e0.fEffect > e.fEffect)))
      rw [hz,decide_eq_true (show k.now > e.fEffect from hl.2)]
      simp
    · rw [hev]
      split
      · rename_i hjn
        have:Judge.ev k.events j = e0:=by simp [Judge.ev,hjn,h0]
        rw [this]; exact ⟨rfl,rfl⟩
      · exact ⟨rfl,rfl⟩
  obtain ⟨g1,g2⟩:=Judge.Good_alike alike L.good
  have heff:∀ i,Hist.eff k'.events i = if i.toNat = n then k.now else Hist.eff k.events i:=by
    intro i
    have:=hev i
    show (Judge.ev k'.events i).fEffect = _
    rw [he,this]
    split <;> rfl
  have hin:∀ i ∈ log,i.toNat ≠ n∧Hist.eff k.events i < k.now:=by
    intro i hi
    obtain ⟨m,e,g1,rfl,g2⟩:=(L.mem i).1 hi
    refine ⟨fun h=>?_,by rw [Hist.eff_nat g1]; exact (hlate m e g1).2⟩
    rw [Int.toNat_natCast] at h
    subst h; rw [h0] at g1; cases g1; omega
  refine ⟨fun i=>?_,?_,?_,?_⟩
  · rw [List.mem_append,List.mem_singleton,L.mem,he]
    constructor
    · rintro (⟨m,e,a1,rfl,a2⟩ | rfl)
      · have hmn:m ≠ n:=by rintro rfl; rw [h0] at a1; cases a1; omega
        exact ⟨m,e,by rw [List.getElem?_set,if_neg (fun h=>hmn h.symm)]; exact a1,rfl,a2⟩
      · exact ⟨n,KK.evend e0 k.now a l,by rw [List.getElem?_set,if_pos rfl,if_pos hlt],rfl,hn⟩
    · rintro ⟨m,e,a1,rfl,a2⟩
      rw [List.getElem?_set] at a1
      by_cases h:n = m
      · exact .inr (by rw [h])
      · rw [if_neg h] at a1; exact .inl ⟨m,e,a1,rfl,a2⟩
  · refine List.pairwise_append.2 ⟨?_,List.pairwise_singleton _ _,fun x hx y hy=>?_⟩
    · refine L.up.imp_of_mem fun {x y} hx hy hxy=>?_
      rw [heff,heff,if_neg (hin x hx).1,if_neg (hin y hy).1]; exact hxy
    · rw [List.mem_singleton.1 hy,heff,heff,if_neg (hin x hx).1,if_pos (by simp)]
      exact (hin x hx).2
  · rw [hs]
    refine Judge.Good_app g1 ?_
    rw [g2,L.run]; exact hg
  · rw [hs,Judge.jrun_app,g2,L.run]; exact hj
theorem Log.begin {k:KK} {log:List Int} (L:Log k log) (E:jo k) {e0:bA} (hb:k.now < e0.fBegin) (hz:e0.fEffect = 0) {k':KK} (he:k'.events = k.events++[e0]) (hp:k'.p = k.p):Log k' log:=by
  have alike:∀ i ∈ log,Judge.Alike k.events k'.events i:=by
    intro i hi
    obtain ⟨m,e,g1,rfl,g2⟩:=(L.mem i).1 hi
    have hm:=(List.getElem?_eq_some_iff.1 g1).1
    have hev:∀ j:Int,0 ≤ j→j < k.events.length→Judge.ev (k.events++[e0]) j = Judge.ev k.events j:=by
      intro j h0 h1
      simp only [Judge.ev,List.getD_eq_getElem?_getD]
      rw [List.getElem?_append_left (by omega)]
    rw [he]
    refine ⟨hev _ (by omega) (by omega),?_,fun j hj=>?_⟩
    · rw [ev_get g1]
      unfold Hist.over Hist.places
      rw [Hist.placesFrom_app,if_neg,List.append_nil]
      have o:=E.one m e g1
      have:e.fEffect ≤ k.now:=by
        rcases o.st with s | s
        · have:=o.b0; have:=o.b1; omega
        · exact s.2.2
      simp; omega
    · have:=Hist.places_in hj
      rw [hev j this.1 this.2]; exact ⟨rfl,rfl⟩
  obtain ⟨g1,g2⟩:=Judge.Good_alike alike L.good
  have heff:∀ i ∈ log,Hist.eff k'.events i = Hist.eff k.events i:=fun i hi=>by
    show (Judge.ev k'.events i).fEffect = (Judge.ev k.events i).fEffect
    rw [(alike i hi).e]
  refine ⟨fun i=>?_,L.up.imp_of_mem fun {x y} hx hy hxy=>by rw [heff x hx,heff y hy]; exact hxy,by rw [hp]; exact g1,by rw [hp,g2]; exact L.run⟩
  rw [L.mem,he]
  constructor
  · rintro ⟨m,e,a1,rfl,a2⟩
    exact ⟨m,e,by rw [List.getElem?_append_left (List.getElem?_eq_some_iff.1 a1).1]; exact a1,rfl,a2⟩
  · rintro ⟨m,e,a1,rfl,a2⟩
    rcases Nat.lt_or_ge m k.events.length with h | h
    · rw [List.getElem?_append_left h] at a1; exact ⟨m,e,a1,rfl,a2⟩
    · rw [List.getElem?_append_right h] at a1
      by_cases e1:m - k.events.length = 0
      · rw [e1] at a1
        simp at a1
        rw [← a1] at a2; omega
      · rw [List.getElem?_eq_none (by simp; omega)] at a1; cases a1
structure All (k:KK):Prop extends IE k where
  lg:∃ log,Log k log
theorem all_new {s:eY} (h:PK.sized s = true):All (KK.new s):=⟨ie_new h,[],log_new s⟩
theorem All.begin {k:KK} (A:All k) (hn:k.now < 2 ^ 40) (core env:Int) {c:dc} (cw:Cw c):All (KK.begin_ k core env c).2:=by
  refine ⟨A.toIE.begin hn core env cw,?_⟩
  obtain ⟨log,L⟩:=A.lg
  refine ⟨log,?_⟩
  have hw:=wrapN A.inv.ok.n0 hn
  unfold KK.begin_
  split
  · exact L
  · rw [hw]
    exact L.begin A.ev (e0:=KK.ev0 core env c (k.now + 1)) (by show k.now < k.now + 1; omega) rfl rfl rfl
theorem All.post {k:KK} (A:All k) (hn:k.now < 2 ^ 40) (c:Int):All (KK.post k c).2:=by
  have he:(KK.post k c).2.events = k.events∧(KK.post k c).2.p = k.p:=by
    unfold KK.post
    split
    · exact ⟨rfl,rfl⟩
    · split <;> exact ⟨rfl,rfl⟩
  obtain ⟨log,L⟩:=A.lg
  exact ⟨A.toIE.post hn c,log,L.same he.1 he.2⟩
theorem All.tick {k:KK} (A:All k) (hn:k.now < 2 ^ 40):All (KK.tick k):=by
  obtain ⟨log,L⟩:=A.lg
  exact ⟨⟨A.inv.tick hn,tick_ev A.inv.ok A.ev hn⟩,log,L.same rfl rfl⟩
theorem work_log {k:KK} (A:All k) (hlate:∀ (i:Nat) e,k.events[i]? = some e→e.fBegin < k.now∧e.fEffect < k.now) (hn0:0 < k.now) {c:Nat} {x:KC} (hx:KK.call k c = some x) (hi:KK.is k c = true):∃ log,Log (KK.work k c x) log:=by
  have hc:c < k.calls.length:=by obtain ⟨n,e,h⟩:=ol hi; omega
  have hcx:=kcall_nat hx
  obtain ⟨log,L⟩:=A.lg
  obtain ⟨n,hn,e0,g1,g2,g3,g4,g5⟩:=A.ev.call c x hcx
  have setev:∀ (m:KK) (a:eM) (l:jO),m.events = k.events→m.now = k.now→(KK.ends m c x a l).events = k.events.set n (KK.evend e0 k.now a l):=by
    intro m a l h1 h2
    unfold KK.ends
    rw [h1,h2,hn]
    simp only [Int.toNat_natCast,List.getD_eq_getElem?_getD,g1,Option.getD_some]
  have hev:∀ a l,Judge.ev (k.events.set n (KK.evend e0 k.now a l)) n = KK.evend e0 k.now a l:=fun a l=>by rw [ev_set g1,if_pos (by simp)]
  have juser:∀ a l,fz (KK.evend e0 k.now a l) = bT (aA x.fc).1:=fun a l=>by
    unfold fz
    show bT (aA e0.fCall).1 = _
    rw [g4]
  unfold KK.work
  by_cases hu:bT (aA x.fc).1 = true
  · rw [if_pos hu]
    obtain ⟨h1,h2,h3,_,_⟩:=access_keep k c x
    have he:=setev (KK.access k c x).2 (KK.access k c x).1.1 (KK.access k c x).1.2 h1 h2
    refine ⟨log++[(n:Int)],?_⟩
    have ag:=access_good A.inv hc hcx hu (es:=k.events.set n (KK.evend e0 k.now (KK.access k c x).1.1 (KK.access k c x).1.2)) (e:=KK.evend e0 k.now (KK.access k c x).1.1 (KK.access k c x).1.2) g4 g3 rfl rfl ?_
    · refine L.effect g1 g5 hlate hn0 he h3 ?_ ?_
      · rw [he]
        unfold Judge.good
        rw [hev,juser,hu]
        exact ⟨fun _=>ag.1,fun h=>(by cases h)⟩
      · rw [he]
        unfold Judge.jstep
        rw [hev,juser,if_pos hu]
        exact ag.2
    · rintro d y ⟨hy,hty⟩
      obtain ⟨m,hm,ey,f1,f2,f3,f4,f5⟩:=A.ev.call d y hy
      have hmn:m ≠ n:=by
        rintro rfl
        rw [g1] at f1
        cases f1
        have:d = c:=by omega
        subst this
        rw [hcx] at hy
        cases hy
        have T:=A.inv.teller ⟨hcx,hty⟩
        have w:=tL A.inv.en.1 A.inv.en.2 T.k
        have ht:=T.t
        rw [vR w.kind] at hu
        unfold bT at hu
        unfold Tk at ht
        simp at hu
        omega
      have hge:(k.events.set n (KK.evend e0 k.now (KK.access k c x).1.1 (KK.access k c x).1.2))[m]? = some ey:=by rw [List.getElem?_set,if_neg (fun h=>hmn h.symm)]; exact f1
      rw [hm]
      refine ⟨?_,?_,?_⟩
      · unfold Hist.over
        rw [Hist.mem_places]
        refine ⟨m,ey,hge,rfl,?_⟩
        have:=(hlate m ey f1).1
        show (decide (ey.fBegin ≤ k.now) && (ey.fEffect == 0 || decide (ey.fEffect > k.now))) = true
        rw [f5]; simp; omega
      · rw [ev_get hge]; exact f4
      · rw [ev_get hge]; exact f3
  · rw [if_neg hu]
    have hu':bT (aA x.fc).1 = false:=by simpa using hu
    split
    · exact ⟨log,L.same rfl rfl⟩
    · split
      · exact ⟨log,L⟩
      · split
        · rename_i hdone
          have he:=setev { k with p:=(PK.do_ k.p x.fenv x.fc).2 } (PK.do_ k.p x.fenv x.fc).1.1 km rfl rfl
          refine ⟨log++[(n:Int)],L.effect g1 g5 hlate hn0 he (do_s _ _ _) ?_ ?_⟩
          · rw [he]
            unfold Judge.good
            rw [hev,juser,hu']
            refine ⟨fun h=>(by cases h),fun _=>?_⟩
            show (PK.do_ k.p e0.fEnv e0.fCall).1.2 = true∧(PK.do_ k.p e0.fEnv e0.fCall).1.1 = (PK.do_ k.p x.fenv x.fc).1.1
            rw [g3,g4]
            exact ⟨hdone,rfl⟩
          · rw [he]
            unfold Judge.jstep
            rw [hev,juser,if_neg hu]
            show (PK.do_ k.p e0.fEnv e0.fCall).2 = (PK.do_ k.p x.fenv x.fc).2
            rw [g3,g4]
        · rename_i hdone
          rw [do_wait (by simpa using hdone)]
          exact ⟨log,L⟩
theorem All.step {k:KK} (A:All k) (hn:k.now < 2 ^ 40) (c:Int):All (KK.step k c).2:=by
  refine ⟨A.toIE.step hn c,?_⟩
  unfold KK.step
  split
  · exact A.lg
  · rename_i hb
    obtain ⟨hi,x,hx⟩:=busy_is (by simpa using hb)
    rw [hx]
    obtain ⟨n,rfl,_⟩:=ol hi
    have h0:=A.inv.ok.n0
    exact work_log (A.tick hn) (tick_late A.inv.ok A.ev hn) (by rw [tick_now A.inv.ok hn]; omega) hx hi
theorem All.right {k:KK} (A:All k):Judge.right k.events k.p.s = true∧Judge.linear k.events k.p.s = (-1,true)∧Judge.accesses k.events k.p.s = (-1,true):=by
  obtain ⟨log,L⟩:=A.lg
  exact right_of A.ev L
end Go.Proofs.YtemoifebbhoinaaGreatDoor
namespace Go.Proofs.YtemoifebbhoinaaGreatDoor
open Go Mb
theorem all_close:Closed All:=⟨fun A=>A.inv,fun A hn c=>A.post hn c,fun A hn c=>A.step hn c⟩
structure Calm (i:Nat) (k:KK):Prop extends All k where
  idle:∀ (d:Nat) x,k.calls[d]? ≠ some (some x)
  now:k.now ≤ i * 120100
  ep:k.epochs.1.length ≤ 24 * i
theorem calm_new {s:eY} (h:PK.sized s = true):Calm 0 (KK.new s):=⟨all_new h,fun d x e=>absurd e (rZ s d x),Int.le_refl _,Nat.le_refl _⟩
theorem Calm.run {i:Nat} {k:KK} (C:Calm i k) (hi:i ≤ 100) (core env:Int) {c:dc} (cw:Cw c) (h9:c.e0 ≠ 9):Calm (i + 1) (KK.run k core env c).2:=by
  have hnow:=C.now
  have hep:=C.ep
  have hii:(i:Int) * 120100 ≤ 100 * 120100:=by omega
  have B:=C.toAll.begin (by omega) core env cw
  have hb:=KK.begin_now C.inv.ok.n0 (by omega) core env c
  have h8:=B.inv.ok.cl
  have h88:=fQ.1 B.inv.ok.p.sz
  have he:(KK.begin_ k core env c).2.epochs = k.epochs∧(∀ (d:Nat) x,(KK.begin_ k core env c).2.calls[d]? = some (some x)→x.fc.e0 ≠ 9)∧((KK.begin_ k core env c).1 = false→(KK.begin_ k core env c).2 = k):=by
    unfold KK.begin_
    split
    · exact ⟨rfl,fun d x h=>absurd h (C.idle d x),fun _=>rfl⟩
    · refine ⟨rfl,fun d x h=>?_,fun h=>by cases h⟩
      have h':(k.calls.set core.toNat (some ⟨k.events.length,env,c,false,0⟩))[d]? = some (some x):=h
      rw [List.getElem?_set] at h'
      split at h'
      · split at h'
        · simp only [Option.some.injEq] at h'
          rw [← h']; exact h9
        · cases h'
      · exact absurd h' (C.idle d x)
  have S:=settle_settled (m:=997) all_close (cores:=8) B (by omega) (Nat.le_refl _) (by rw [he.1]; omega) (by omega) he.2.1
  have S:=S.2
  rw [show (997 + 3:Nat) = 1000 from rfl] at S
  have D:Calm (i + 1) (KK.settle 8 1000 (KK.begin_ k core env c).2).2:=by
    have h1:=S.now
    have h2:=S.own
    rw [he.1] at h2
    exact ⟨S.all,S.idle,by omega,by omega⟩
  unfold KK.run
  split
  · rename_i hf
    dsimp only
    rw [he.2.2 hf]
    exact ⟨C.toAll,C.idle,by omega,by omega⟩
  · split
    · dsimp only; exact D
    · dsimp only; exact D
end Go.Proofs.YtemoifebbhoinaaGreatDoor
namespace Go.Proofs.YtemoifebbhoinaaGreatDoor
open Go Mb
theorem mod_in (x:Int) {n:Int} (h:1 ≤ n∧n ≤ 100):0 ≤ (IntKind.i64.wrap (x.tmod n + n)).tmod n∧(IntKind.i64.wrap (x.tmod n + n)).tmod n < n:=by
  have h1:=Int.tmod_lt_of_pos x (show (0:Int) < n by omega)
  have h2:-n < x.tmod n:=by
    have:=Int.tmod_lt_of_pos (-x) (show (0:Int) < n by omega)
    rw [Int.neg_tmod] at this
    omega
  rw [bR (by omega) (by omega)]
  exact ⟨Int.tmod_nonneg _ (by omega),Int.tmod_lt_of_pos _ (by omega)⟩
end Go.Proofs.YtemoifebbhoinaaGreatDoor
namespace Go.Proofs.YtemoifebbhoinaaGreatDoor
open Go Mb
variable {ET:Nat} {EF:Nat × Nat}
namespace Revoke
open Shared
def sz (n:Int):eY:=⟨n,2,2⟩
def ld:dc:=⟨20,6,0,0,0⟩
def call (b:Bool):dc:=if b then ⟨5,0,0,0,0⟩ else ⟨4,0,0,0,0⟩
def num (b:Bool):Int:=if b then 2 else 1
def gr1 (n v:Int):=KK.run (r3 (sz n) v).2 0 0 ⟨3,0,1,3,1⟩
def gr2 (n v:Int):=KK.run (gr1 n v).2 1 1 ⟨6,6,3,1,0⟩
def kl (n v:Int):Nat→KK
  | 0=>(gr2 n v).2
  | m + 1=>(KK.run (kl n v m) m 1 ld).2
def gc (n v:Int) (b:Bool):=KK.run (kl n v n.toNat) 0 0 (call b)
def kf (n v:Int) (b:Bool):Nat→KK
  | 0=>(gc n v b).2
  | m + 1=>(KK.run (kf n v b m) m 1 ld).2
abbrev AB:=eM × Bool
abbrev ok:AB:=(⟨0,0⟩,true)
def tab (n v:Int) (b:Bool):(AB × AB × AB × AB × AB × AB) × (List AB × List AB) × (Bool × Nat × Nat × eY) × Bool :=
  (((r1 (sz n)).1,(r2 (sz n)).1,(r3 (sz n) v).1,(gr1 n v).1,(gr2 n v).1,(gc n v b).1),
   ((List.range n.toNat).map (fun m=>(KK.run (kl n v m) m 1 ld).1),(List.range n.toNat).map (fun m=>(KK.run (kf n v b m) m 1 ld).1)),
   ((Caps.at_ (kf n v b n.toNat).p.caps 1 3).2,(Pool.free (kf n v b n.toNat).p.pool).length,(kf n v b n.toNat).events.length,(kf n v b n.toNat).p.s),
   PK.sized (sz n) && decide ((r1 (sz n)).2.now < 1000) && decide ((r2 (sz n)).2.now < 1000))
def eN (n v:Int) (b:Bool):(AB × AB × AB × AB × AB × AB) × (List AB × List AB) × (Bool × Nat × Nat × eY) × Bool :=
  ((ok,ok,ok,ok,ok,(⟨0,num b⟩,true)),((List.range n.toNat).map (fun _=>(⟨0,v⟩,true)),(List.range n.toNat).map (fun _=>(⟨7,0⟩,true))),(false,(if b then 2 else 1),6 + 2 * n.toNat,sz n),true)
theorem of_map {α:Type} {f:Nat→α} {a:α} {n:Nat} (h:(List.range n).map f = (List.range n).map (fun _=>a)) (m:Nat) (hm:m < n):f m = a:=by
  have:=congrArg (fun l=>l[m]?) h
  simpa [hm] using this
theorem tabs (v:Int):tab 2 v false = eN 2 v false∧tab 3 v false = eN 3 v false∧tab 4 v false = eN 4 v false∧tab 2 v true = eN 2 v true∧tab 3 v true = eN 3 v true∧tab 4 v true = eN 4 v true:=by
  refine ⟨?_,?_,?_,?_,?_,?_⟩ <;> kernel_rfl
theorem tab_all (n v:Int) (b:Bool) (h:2 ≤ n∧n ≤ 4):tab n v b = eN n v b:=by
  obtain ⟨t1,t2,t3,t4,t5,t6⟩:=tabs v
  have:n = 2∨n = 3∨n = 4:=by omega
  cases b
  · rcases this with h | h | h
    · rw [h]; exact t1
    · rw [h]; exact t2
    · rw [h]; exact t3
  · rcases this with h | h | h
    · rw [h]; exact t4
    · rw [h]; exact t5
    · rw [h]; exact t6
structure Fine (n v:Int) (b:Bool):Prop where
  sh:Shared.Fine (sz n) v
  a1:(gr1 n v).1 = ok
  a2:(gr2 n v).1 = ok
  l1:∀ m:Nat,m < n.toNat→(KK.run (kl n v m) m 1 ld).1 = (⟨0,v⟩,true)
  ac:(gc n v b).1 = (⟨0,num b⟩,true)
  l2:∀ m:Nat,m < n.toNat→(KK.run (kf n v b m) m 1 ld).1 = (⟨7,0⟩,true)
  cap:(Caps.at_ (kf n v b n.toNat).p.caps 1 3).2 = false
  free:(Pool.free (kf n v b n.toNat).p.pool).length = if b then 2 else 1
  evs:(kf n v b n.toNat).events.length = 6 + 2 * n.toNat
  s:(kf n v b n.toNat).p.s = sz n
theorem fine (n v:Int) (b:Bool) (h:2 ≤ n∧n ≤ 4):Fine n v b:=by
  have h:=tab_all n v b h
  unfold tab eN at h
  simp only [Prod.mk.injEq] at h
  obtain ⟨⟨b1,b2,b3,b4,b5,b6⟩,⟨c1,c2⟩,⟨d1,d2,d3,d4⟩,e⟩:=h
  simp only [Bool.and_eq_true,decide_eq_true_eq] at e
  exact ⟨⟨e.1.1,b1,b2,b3,e.1.2,e.2⟩,b4,b5,of_map c1,b6,of_map c2,d1,d2,d3,d4⟩
theorem calm3 {n v:Int} (h:PK.sized (sz n) = true) (hv:0 ≤ v):Calm 3 (r3 (sz n) v).2 :=
  (((calm_new h).run (by decide) 0 0 ⟨by decide,by decide,by decide,by decide,by decide⟩ (by decide)).run (by decide) 0 0 ⟨by decide,by decide,by decide,by decide,by decide⟩ (by decide)).run (by decide) 0 0 (c:=⟨21,0,0,v,0⟩) ⟨show (0:Int) ≤ 21 by decide,Int.le_refl _,Int.le_refl _,hv,Int.le_refl _⟩ (show (21:Int) ≠ 9 by decide)
theorem calml {n v:Int} (h:PK.sized (sz n) = true) (hv:0 ≤ v):∀ m:Nat,m ≤ 8→Calm (5 + m) (kl n v m)
  | 0,_=>((calm3 h hv).run (by decide) 0 0 ⟨by decide,by decide,by decide,by decide,by decide⟩ (by decide)).run (by decide) 1 1 ⟨by decide,by decide,by decide,by decide,by decide⟩ (by decide)
  | m + 1,hm=>(calml h hv m (by omega)).run (by omega) m 1 ⟨by decide,by decide,by decide,by decide,by decide⟩ (by decide)
theorem calmf {n v:Int} {b:Bool} (h:PK.sized (sz n) = true) (hv:0 ≤ v) (hn:n.toNat ≤ 8):∀ m:Nat,m ≤ 8→Calm (6 + n.toNat + m) (kf n v b m)
  | 0,_=>by
    have:=(calml h hv n.toNat hn).run (by omega) 0 0 (c:=call b) (by cases b <;> exact ⟨by decide,by decide,by decide,by decide,by decide⟩) (by cases b <;> decide)
    rw [show 6 + n.toNat + 0 = 5 + n.toNat + 1 by omega]
    exact this
  | m + 1,hm=>by
    have:=(calmf (b:=b) h hv hn m (by omega)).run (by omega) m 1 (c:=ld) ⟨by decide,by decide,by decide,by decide,by decide⟩ (by decide)
    exact this
end Revoke
open Revoke in
theorem sp_ShootRevoke (c v:Int) (b:Bool) (hv:0 ≤ v):Sp Tryz.prog kZ [.int .i64 c,.int .u64 v,.bool b] aC [etB ET EF] (fun r=>pa_ (r = true) [etB ET EF]):=by
  intro h st
  refine qI _ _ _ ?_
  unfold kx
  refine bM (i:=0) sp_begun16 rfl st fun r h1 hr s1=>?_
  subst hr
  refine di rfl ?_
  have m1:=mod_in c (n:=3) (by decide)
  have hw1:IntKind.i64.wrap (2 + (IntKind.i64.wrap (c.tmod 3 + 3)).tmod 3) = 2 + (IntKind.i64.wrap (c.tmod 3 + 3)).tmod 3:=bR (by omega) (by omega)
  obtain ⟨n,hn⟩:∃ n:Nat,2 + (IntKind.i64.wrap (c.tmod 3 + 3)).tmod 3 = n:=⟨(2 + (IntKind.i64.wrap (c.tmod 3 + 3)).tmod 3).toNat,by omega⟩
  have hn4:2 ≤ n∧n ≤ 4:=by omega
  have F:=fine n v b (by omega)
  have ent:(n:Int).toNat = n:=Int.toNat_natCast n
  have cl:=calml (n:=n) (v:=v) F.sh.sz hv
  have cf:=calmf (n:=n) (v:=v) (b:=b) F.sh.sz hv (by omega)
  rw [hw1,hn]
  refine lL (sp_shared (sz n) v F.sh) s1 fun x h2 s2=>?_
  refine di (kern_nn s2) ?_
  have c3:=(calm3 (n:=n) (v:=v) F.sh.sz hv)
  have n3:=c3.now
  have c4:=c3.run (by decide) 0 0 (c:=⟨3,0,1,3,1⟩) ⟨by decide,by decide,by decide,by decide,by decide⟩ (by decide)
  have n4:(gr1 n v).2.now ≤ (4:Nat) * 120100:=c4.now
  refine bM (i:=0) (sL x (Shared.r3 (sz n) v).2 0 0 ⟨3,0,1,3,1⟩ (by omega)) rfl s2 fun r h3 hr s3=>?_
  have e1:r = ok:=hr.1.trans F.a1
  subst e1
  refine di rfl ?_
  have s3:aG [cF x (gr1 n v).2,etB ET EF] h3:=s3
  refine bM (i:=0) (sL x (gr1 n v).2 1 1 ⟨6,6,3,1,0⟩ (by omega)) rfl s3 fun r h4 hr s4=>?_
  have e1:r = ok:=hr.1.trans F.a2
  subst e1
  refine di rfl ?_
  have s4:aG [cF x (kl n v 0),etB ET EF] h4:=s4
  refine Lp.intro (fun (i:Int) h=>∃ m:Nat,i = m∧m ≤ n∧aG [cF x (kl n v m),etB ET EF] h) (fun (i:Int) _=>n - i.toNat) ⟨0,rfl,Nat.zero_le _,s4⟩ ?_
  rintro i h5 ⟨m,rfl,hm,s5⟩
  unfold gI
  rw [hw1,hn]
  have hnm:=(cl m (by omega)).now
  refine ba (fun k=>?_) (fun k=>?_)
  · have hlt:m < n:=by simpa using k
    have hw:IntKind.i64.wrap ((m:Int) + 1) = ((m + 1:Nat):Int):=by rw [bR (by omega) (by omega)]; rfl
    refine bM (i:=0) (sL x (kl n v m) m 1 ld (by omega)) rfl s5 fun r h6 hr s6=>?_
    have e1:r = (⟨0,v⟩,true):=hr.1.trans (F.l1 m (by omega))
    subst e1
    refine di (by simp) ?_
    rw [hw]
    exact ⟨⟨m + 1,rfl,hlt,s6⟩,by simp; omega⟩
  · have hmn:m = n:=by simp at k; omega
    subst hmn
    have rest:∀ {h':Hp},aG [cF x (kf m v b 0),etB ET EF] h'→Lp (eQ c b (fun r=>pa_ (r = true) [etB ET EF]) x) 0 h':=by
      intro h7 s7
      refine Lp.intro (fun (i:Int) h=>∃ a:Nat,i = a∧a ≤ m∧aG [cF x (kf m v b a),etB ET EF] h) (fun (i:Int) _=>m - i.toNat) ⟨0,rfl,Nat.zero_le _,s7⟩ ?_
      rintro i h8 ⟨a,rfl,ha,s8⟩
      unfold eQ
      rw [hw1,hn]
      have hna:=(cf a (by omega)).now
      rw [ent] at hna
      refine ba (fun k=>?_) (fun k=>?_)
      · have hlt:a < m:=by simpa using k
        have hw:IntKind.i64.wrap ((a:Int) + 1) = ((a + 1:Nat):Int):=by rw [bR (by omega) (by omega)]; rfl
        refine bM (i:=0) (sL x (kf m v b a) a 1 ld (by omega)) rfl s8 fun r h9 hr s9=>?_
        have e1:r = (⟨7,0⟩,true):=hr.1.trans (F.l2 a (by omega))
        subst e1
        refine di rfl ?_
        rw [hw]
        exact ⟨⟨a + 1,rfl,hlt,s9⟩,by simp; omega⟩
      · have ham:a = m:=by simp at k; omega
        subst ham
        have hcap:=F.cap
        have hfree:=F.free
        have hevs:=F.evs
        have hs:=F.s
        rw [ent] at hcap hfree hevs hs
        have hA:=(cf a (by omega)).toAll.right.1
        rw [hs] at hA
        have hsz:=F.sh.sz
        generalize kf a v b a = k' at s8 hcap hfree hevs hs hA hna
        refine bM (i:=0) (sp_kern_Cap x k' 1 3) rfl s8 fun r h9 hr s9=>?_
        refine dG (by rw [hr,hcap]; rfl) ?_
        refine uY (i:=0) (sp_kern_Free x k') rfl s9 fun r2 h10 s10=>?_
        have hl2:=(cj (j:=0) s10 rfl).1
        refine dG (by rw [hl2,hfree]; cases b <;> rfl) ?_
        refine uY (i:=1) (sI x k' (by omega)) rfl s10 fun u h11 s11=>?_
        refine bM (i:=0) (sp_judge_Right u k'.events (sz a) hsz (by omega) (ord20 u (by omega))) rfl s11 fun r3 h12 hr3 s12=>?_
        exact aX (hr3.trans hA) (cc (l:=[_,_,_]) s12)
    have j1:dK c b (fun r=>pa_ (r = true) [etB ET EF]) x (call b) h5:=by
      unfold dK
      refine bM (i:=0) (sL x (kl m v m) 0 0 (call b) (by omega)) rfl s5 fun r h6 hr s6=>?_
      have hac:=F.ac
      have e1:r = (⟨0,num b⟩,true):=hr.1.trans (by unfold gc at hac; rw [ent] at hac; exact hac)
      have s6:aG [cF x (KK.run (kl m v m) 0 0 (call b)).2,etB ET EF] h6:=s6
      have ek:(KK.run (kl m v m) 0 0 (call b)).2 = kf m v b 0:=by rw [kf,gc,ent]
      rw [ek] at s6
      subst e1
      unfold eR
      cases b
      · exact di rfl (di (by simp [ab.eqb,num]) (rest s6))
      · exact dG rfl (di (by simp [ab.eqb,num]) (rest s6))
    cases b
    · exact di rfl j1
    · exact dG rfl j1
end Go.Proofs.YtemoifebbhoinaaGreatDoor
namespace Go.Proofs.YtemoifebbhoinaaGreatDoor
open Go Mb Go.ChangeShapes Go.WideShapes Go.RowKit
set_option maxRecDepth 100000 in
theorem lifted_3 (os:Os) (started:os.Started) (H:Type) (enc:TypeId × Value→H) :
    ReturnsInHanded {} Tryz.checked os 3 .any (fun w args=>(Rows.shootRevokeSpec.pre enc Tryz.prog Tryz.f3 [] false w args∧laidMetH Tryz.prog laid w)∧sizedMet enc Tryz.prog Tryz.f3 (OpenSpec.ofChange Rows.shootRevokeSpec) false w args)
      (Rows.shootRevokeSpec.post enc Tryz.prog Tryz.f3 false true false false):=by
  refine returnsInHanded_of_change_and (C:=Tryz.checked) (X:=fun w _=>laidMetH Tryz.prog laid w) (fun _ _ _ hh h=>h.of_heap hh) Tryz.own started (by kernel_rfl) Tryz.func3
    (ChangeSpec.witness_at (enc:=enc) (C:=Tryz.checked) (os:=os) (X:=fun w _=>laidMetH Tryz.prog laid w) false (laidWorld os) #[.int .i64 0,.int .u64 0,.bool false] 8 rfl (by kernel_rfl) (by kernel_rfl) (by kernel_rfl) (by kernel_rfl) (by kernel_rfl) (laidWorld_met os _)) ?_
  intro W base args ds gs before hval0 hW _ _ hL _
  have hval:∀ (j:Nat) t v,Tryz.f3.params[j]? = some t→args[j]? = some v→Value.okWide Tryz.prog W .any base t v:=hval0
  have hW':=hW
  obtain ⟨p,q,hA0,hV0,rfl,hfz,hnd⟩:=hW
  have hA:DataW.TrodAll enc Tryz.prog W 0 (fun _=>true) true Tryz.f3.params.toList args.toList ds p:=hA0
  have hV:DataW.TrodVars enc Tryz.prog W (fun _=>true) [] gs q:=hV0
  rw [Tryz.params3] at hA hval
  have hst:=hA
  obtain ⟨T,F,hb⟩:=block_of_laid hL
  obtain ⟨rfl,rfl⟩:gs = []∧q = []:=by
    cases gs with
    | nil=>exact ⟨rfl,hV⟩
    | cons g r=>exact absurd hV (by intro h; cases h)
  obtain ⟨v0,w0,d0,e0,p0,q0,hx0,rfl,rfl,h0,hA0⟩:=trodAll_cons hA
  obtain ⟨v1,w1,d1,e1,p1,q1,hx1,rfl,rfl,h1,hA1⟩:=trodAll_cons hA0
  obtain ⟨v2,w2,d2,e2,p2,q2,hx2,rfl,rfl,h2,hA2⟩:=trodAll_cons hA1
  obtain ⟨hy,rfl,rfl⟩:=trodAll_nil hA2
  subst hy
  subst hx2
  subst hx1
  obtain rfl:args = #[v0,v1,v2]:=by apply Array.ext'; exact hx0
  obtain ⟨n0,rfl,rfl,rfl,hw0⟩:=open_int Tryz.underlying3 (hval 0 3 v0 rfl rfl) h0
  obtain ⟨n1,rfl,rfl,rfl,hw1⟩:=open_int Tryz.underlying22 (hval 1 22 v1 rfl rfl) h1
  obtain ⟨b2,rfl⟩:=open_bool Tryz.underlying4 (hval 2 4 v2 rfl rfl) h2
  refine (run_sp' (ET:=T) (EF:=F) (sp_ShootRevoke n0 n1 b2 (wf_u hw1).1) hb).mono fun e W' ⟨he,hk⟩=>?_
  subst he
  refine ⟨_,rfl,_,_,_,[],(([]:List MemPlace)++(([]:List MemPlace)++(p2++[]))),[],hW',?_,?_,?_,keptBut_same hk.os hk.out hk.heap,fun h=>by cases h⟩
  · exact trodAll_mk1 (shut_bool Tryz.underlying4 true)
  · exact same_post (by kernel_rfl) (by kernel_rfl) hst (fun p hp=>hW'.lt p (List.mem_append_left _ hp)) hk (fun p hp=>by simpa using hW'.lt p (List.mem_append_left _ hp))
  · rfl
end Go.Proofs.YtemoifebbhoinaaGreatDoor
namespace Go.Proofs.YtemoifebbhoinaaGreatDoor
open Go Mb Go.ChangeShapes Go.WideShapes Go.RowKit
theorem jf0:Tryz.pinned.checked.prog.funcNamed Rows.shootRevokeRow.func = some 3:=by kernel_rfl
theorem jf1:(Rows.shootRevokeRow.wf (OpenSpec.ofChange Rows.shootRevokeSpec) && laidOutB Tryz.pinned.checked.prog && mapsRowed Tryz.pinned.checked.prog) = true:=by kernel_rfl
theorem jf2:(Tryz.f3.params.all (Tryz.pinned.checked.prog.readableRec ·) && namedTie Tryz.pinned.checked.prog Rows.shootRevokeRow.named Rows.shootRevokeSpec.vars && (Rows.shootRevokeRow.stops == []) && (Tryz.pinned.checked.prog.stops == []) && (Rows.shootRevokeRow.knobs == []) && (Tryz.pinned.checked.prog.stopKnobs == [])) = true:=by kernel_rfl
theorem jf3:(Rows.shootRevokeRow.inPlace == Tryz.pinned.checked.prog.inPlace 3) = true:=by kernel_rfl
theorem jf4:(Rows.shootRevokeRow.unfollowed == Tryz.pinned.checked.prog.unfollowed 3) = true:=by kernel_rfl
theorem jf5:(Rows.shootRevokeRow.recurses == Tryz.pinned.checked.prog.recurses 3) = true:=by kernel_rfl
theorem jf6:(Rows.shootRevokeRow.named == Tryz.pinned.checked.prog.varsNamed 3) = true:=by kernel_rfl
theorem jf7:((Rows.shootRevokeRow.maps == (Tryz.f3.params.toList++Rows.shootRevokeSpec.plain.varTypes Tryz.pinned.checked.prog).any (Tryz.pinned.checked.prog.mapsRec ·)) && (Rows.shootRevokeRow.ifaces == (Tryz.f3.params.toList++Rows.shootRevokeSpec.plain.varTypes Tryz.pinned.checked.prog).any (Tryz.pinned.checked.prog.ifacesRec ·)) && (Rows.shootRevokeRow.mapsOut == Tryz.pinned.checked.prog.mapsAmong Tryz.f3.resultTypes.toList) &&
  (Rows.shootRevokeRow.loops == (Tryz.f3.params.toList++Rows.shootRevokeSpec.plain.varTypes Tryz.pinned.checked.prog).any (Tryz.pinned.checked.prog.loopsFrom ·)) && (Rows.shootRevokeRow.wideKeys == (Tryz.f3.params.toList++Rows.shootRevokeSpec.plain.varTypes Tryz.pinned.checked.prog++Tryz.f3.resultTypes.toList).any (Tryz.pinned.checked.prog.wideKeysFrom ·)) &&
  Rows.shootRevokeSpec.vars.all (Tryz.pinned.checked.prog.varReadable ·) && Tryz.f3.resultTypes.all (fun t=>Tryz.pinned.checked.prog.readableRec t && decide (t < Tryz.pinned.checked.prog.types.size)) && (Rows.shootRevokeRow.ifacesOut == Tryz.f3.resultTypes.toList.any (Tryz.pinned.checked.prog.ifacesRec ·)) && (Rows.shootRevokeRow.loopsOut == Tryz.f3.resultTypes.toList.any (Tryz.pinned.checked.prog.loopsFrom ·))) = true:=by kernel_rfl
theorem jf8:(Rows.shootRevokeRow.plainKeys == Tryz.pinned.checked.prog.plainKeys) = true:=by kernel_rfl
theorem jf9:(Rows.shootRevokeRow.shortTexts.isNone && Tryz.pinned.checked.prog.stopsHeard && Tryz.pinned.checked.prog.mayEnter && (Rows.shootRevokeRow.lifted == Tryz.pinned.checked.prog.liftsFinal) && (Tryz.pinned.checked.prog.make == some Rows.shootRevokeRow.make) && kindsB Tryz.pinned.checked.prog Tryz.f3 Rows.shootRevokeRow && (Rows.shootRevokeRow.pinned == Rows.shootRevokeRow.pinnedBy) &&
  (Rows.shootRevokeRow.veiled == (Tryz.f3.params.toList++Rows.shootRevokeSpec.plain.varTypes Tryz.pinned.checked.prog++Tryz.f3.resultTypes.toList).any (Tryz.pinned.checked.prog.veiledRec ·)) && Rows.shootRevokeRow.veiledFits Tryz.pinned.checked.prog Tryz.f3.params.toList (Tryz.f3.params.toList++Rows.shootRevokeSpec.plain.varTypes Tryz.pinned.checked.prog++Tryz.f3.resultTypes.toList)) = true:=by kernel_rfl
theorem said_3:Rows.ShootRevokeSaid :=
  OpenClaim.holds_of_wide 3 Tryz.f3 rfl rfl rfl rfl rfl rfl rfl ⟨rfl,rfl,rfl,rfl,rfl⟩ rfl rfl rfl rfl rfl jf0 Tryz.func3 (joined_split jf1 jf2 jf3 jf4 jf5 jf6 jf7 jf8 jf9)
    (of_decide_eq_true (by kernel_rfl)) (by unfold Func.isWrapper; rw [if_neg (of_decide_eq_false (by kernel_rfl))]; exact ⟨rfl,rfl⟩)
    (fun os started H enc _=>lifted_3 os started H enc)
theorem shootRevoke_holds:Rows.ShootRevokeCardSaid :=
  Claim7.holds_tied_plain_at .later [] [.handle] true (true, "a63c83af46769ae5b2e0de3169bc55eed442217913052e397606a55bd0c0baed") true
    said_3 (fun _ h=>by cases h) (by kernel_rfl) (fun _ h=>by cases h) shootRevoke_row_tie rfl ⟨rfl,rfl⟩ (by kernel_rfl) rfl
    (fun f fn hf hfn=>by
      obtain rfl:f = 3:=Option.some.inj ((show Tryz.prog.funcNamed "messuage/messuagelaw16.ShootRevoke" = some 3 by kernel_rfl).symm.trans hf) |>.symm
      obtain rfl:fn = Tryz.f3:=(Option.some.inj (Tryz.func3.symm.trans hfn)).symm
      exact ⟨by kernel_rfl,fun j t ht=>by
        rw [Tryz.params3] at ht
        exact want_all (by kernel_rfl) (j:=j) (t:=t) ht⟩)
    (by kernel_rfl)
end Go.Proofs.YtemoifebbhoinaaGreatDoor
