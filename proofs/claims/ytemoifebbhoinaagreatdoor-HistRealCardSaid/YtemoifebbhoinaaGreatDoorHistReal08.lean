/- Part of the proof of: The law HistReal returns true for every input, and leaves its arguments as they were. -/
import Derived.Test.YtemoifebbhoinaaGreatDoorHistReal07
set_option linter.all false
set_option maxRecDepth 20000
namespace Go.Proofs.YtemoifebbhoinaaGreatDoor
open Go.Proofs.Tryz
open Go.IntKind (i64 u64)
open _root_.Bool (and_eq_true)
open _root_.Int (toNat_natCast)
open _root_.List (getD_eq_getElem?_getD getElem?_eq_getElem getElem?_eq_none getElem?_set getElem_mem length_append length_set length_singleton mem_cons range replicate)
open _root_.Nat (le_of_not_lt le_refl)
section
open Go Mb
abbrev KC:=mz
abbrev bu:=aA
structure KK where
 p:PK
 fMa:List Buf
 fLa:Mail.S
 fGa:fNa.S
 calls:List (Option KC)
 events:List bu
 now:Int
namespace KK
def is (k:KK) (c:Int):Bool:=decide (0 <= c/\c < k.calls.length)
def call (k:KK) (c:Int):Option KC:=(k.calls.getD c.toNat none)
def busy (k:KK) (c:Int):Bool:=is k c && (call k c).isSome
def buf (k:KK) (c:Int):Buf:=k.fMa.getD c.toNat ([],0)
def ev0 (core env:Int) (c:dp) (n:Int):bu:=⟨core,env,c,n,0,0,⟨0,0⟩,ke⟩
def begin_ (k:KK) (core env:Int) (c:dp):Bool × KK :=
 if is k core = false\/busy k core = true\/env < 0\/env >= k.p.s.fJa then (false,k)
 else (true,{ k with now:=i64.wrap (k.now + 1),events:=k.events++[ev0 core env c (i64.wrap (k.now + 1))],calls:=k.calls.set core.toNat (some ⟨k.events.length,env,c,false,0⟩) })
def goes (p:PK) (x:KC) (e s:Int):Bool :=
 if x.fc.e0 = 5/\e = x.fFa/\s = i64.wrap x.fc.e1 then true
 else if fAa.has p.caps e s = true then fAa.under p.caps (fAa.get p.caps e s) ⟨x.fFa,i64.wrap x.fc.e1⟩ else false
def left (p:PK) (x:KC) (e pg:Int) (q:Pte):Pte :=
 if x.fc.e0 = 7 then (if x.fFa = e/\i64.wrap x.fc.e1 = pg then dn else q)
 else if x.fc.e0 = 8 then (if (x.fFa = e/\i64.wrap x.fc.e1 = pg)/\aP (i64.wrap x.fc.e2) (fAa.at_ p.caps e q.fDa).1.fBa = true then { q with fBa:=iand .i64 q.fBa (i64.wrap x.fc.e2) } else q)
 else if goes p x e q.fDa = true then dn else q
def fDb (p:PK) (e pg:Int):List (Option KC)->Bool->Pte->Pte × Bool
 | [],b,q=>(q,b)
 | none::cs,b,q=>fDb p e pg cs b q
 | some x::cs,b,q=>if b = true/\x.fRa = true then fDb p e pg cs ((left p x e pg q).fBa != 0) (left p x e pg q) else fDb p e pg cs b q
def seen (k:KK) (e pg:Int):Pte × Bool:=fDb k.p e pg k.calls (PK.pte k.p e pg).2 (PK.pte k.p e pg).1
def hits (p:PK) (x:KC) (e pg:Nat):Bool:=(PK.pte p e pg).2 && !(an.eqb (left p x e pg (PK.pte p e pg).1) (PK.pte p e pg).1)
def takes (p:PK) (x:KC):Bool :=
 if Word.check x.fc p.s.fJa ≠ 0\/x.fc.e0 < 4\/x.fc.e0 > 8\/x.fc.e0 = 6 then false
 else (range p.s.fJa.toNat).any fun e=>(range 8).any fun pg=>hits p x e pg
def stale (k:KK) (l:jM):Bool:=decide (0 <= l.fCa) && (!(seen k l.fCa l.fPa).2 || (seen k l.fCa l.fPa).1.fEa != l.fEa || !(aP l.fBa (seen k l.fCa l.fPa).1.fBa))
def cleans (k:KK):List jM->Buf->Buf
 | [],b=>b
 | l::ls,b=>if stale k l = true then cleans k ls (Tlb.flush b l.fCa l.fPa).2 else cleans k ls b
def clean (k:KK) (c:Int):KK:={ k with fMa:=k.fMa.set c.toNat (cleans k (Tlb.lines (buf k c)) (buf k c)) }
def evend (e:bu) (n:Int) (a:fe) (l:jM):bu:={ e with fHa:=n,fTa:=n,fAb:=a,fUa:=l }
def ends (k:KK) (c:Int) (x:KC) (a:fe) (l:jM):KK :=
 { k with events:=k.events.set x.fat.toNat (evend (k.events.getD x.fat.toNat (ev0 0 0 ⟨0,0,0,0,0⟩ 0)) k.now a l),calls:=k.calls.set c.toNat none }
def fGb (k:KK) (e pg:Int):List Pte:=if (seen k e pg).2 = true then (Table.insert (replicate 8 dn) pg (seen k e pg).1).2 else replicate 8 dn
def fZa (k:KK) (c:Int) (x:KC):(jM × Bool) × Buf:=User.walk (buf k c) (fGb k x.fFa (i64.wrap x.fc.e1)) x.fFa (i64.wrap x.fc.e1) (i64.wrap x.fc.e0)
def access (k:KK) (c:Int) (x:KC):(fe × jM) × KK :=
 if Word.check x.fc k.p.s.fJa ≠ 0 then ((⟨Word.check x.fc k.p.s.fJa,0⟩,ke),k)
 else if (fZa k c x).1.2 = false then ((⟨7,0⟩,ke),{ k with fMa:=k.fMa.set c.toNat (fZa k c x).2 })
 else (((PK.touch k.p (fZa k c x).1.1.fEa x.fc).1.1,(fZa k c x).1.1),{ k with fMa:=k.fMa.set c.toNat (fZa k c x).2,p:=(PK.touch k.p (fZa k c x).1.1.fEa x.fc).2 })
def tell (k:KK) (c:Int) (x:KC):KK:={ k with calls:=k.calls.set c.toNat (some { x with fRa:=true }) }
def send (k:KK) (c:Int) (x:KC):KK :=
 { k with fGa:=(fNa.begin_ k.fGa c).2,calls:=k.calls.set c.toNat (some { x with fRa:=true,fCb:=(fNa.begin_ k.fGa c).1.1 }),fLa:=(Mail.sends k.fLa c (fNa.begin_ k.fGa c).1.1 k.fLa.length).2 }
def tick (k:KK):KK:={ k with now:=i64.wrap (k.now + 1) }
def work (k:KK) (c:Int) (x:KC):KK :=
 if bJ (az x.fc).1 = true then ends (access k c x).2 c x (access k c x).1.1 (access k c x).1.2
 else if x.fRa = false/\takes k.p x = true then send (clean (tell k c x) c) c x
 else if x.fRa = true/\fNa.done k.fGa x.fCb = false then k
 else if (PK.do_ k.p x.fFa x.fc).1.2 = true then ends { k with p:=(PK.do_ k.p x.fFa x.fc).2 } c x (PK.do_ k.p x.fFa x.fc).1.1 ke
 else { k with p:=(PK.do_ k.p x.fFa x.fc).2 }
def step (k:KK) (c:Int):Bool × KK :=
 if busy k c = false then (false,k) else match call k c with
 | none=>(false,k)
 | some x=>(true,work (tick k) c x)
def post (k:KK) (c:Int):Bool × KK :=
 if is k c = false then (false,k) else if (Mail.take k.fLa c).1.2 = false then (false,k)
 else (true,{ clean { tick k with fLa:=(Mail.take k.fLa c).2 } c with fGa:=(fNa.ack k.fGa c (Mail.take k.fLa c).1.1).2 })
def evict (k:KK) (c s w:Int):Bool × KK :=
 if is k c = false then (false,k) else if (Tlb.evict (buf k c) s w).1 = false then (false,k)
 else (true,{ tick k with fMa:=k.fMa.set c.toNat (Tlb.evict (buf k c) s w).2 })
def mail (k:KK) (c:Int):Int:=if is k c = true then Mail.waits k.fLa c else 0
def lines (k:KK) (c:Int):List jM:=if is k c = true then Tlb.lines (buf k c) else []
def new (s:fQ):KK:=⟨PK.new s,replicate s.fSa.toNat tlb0,replicate s.fSa.toNat [],([],replicate s.fSa.toNat 0),replicate s.fSa.toNat none,[],0⟩
end KK
structure ni (n:Nat) (l:List Int):Prop where
 up:l.Pairwise (· < ·)
 lo:∀ x ∈ l,1 <= x
 hi:∀ x ∈ l,x <= n
structure KK.Ok (k:KK):Prop where
 p:PK.Ok k.p
 tl:(k.fMa.length:Int) = k.p.s.fSa
 bl:(k.fLa.length:Int) = k.p.s.fSa
 el:(k.fGa.2.length:Int) = k.p.s.fSa
 cl:(k.calls.length:Int) = k.p.s.fSa
 cs:∀ x,some x ∈ k.calls->0 <= x.fat/\x.fat < k.events.length/\0 <= x.fFa/\x.fFa < k.p.s.fJa
 n0:0 <= k.now
 evn:(k.events.length:Int) <= k.now
 epn:(k.fGa.1.length:Int) <= k.now
 bx:∀ l ∈ k.fLa,ni k.fGa.1.length l
theorem box_len {n:Nat} {l:List Int} (h:ni n l):l.length <= n:=by
 have key:∀ (l:List Int) (a:Int),l.Pairwise (· < ·)->(∀ x ∈ l,a < x)->(∀ x ∈ l,x <= n)->(l.length:Int) <= max 0 (n - a):=by
  intro l
  induction l with
  | nil=>intro a _ _ _; simp; omega
  | cons b l ih =>
   intro a hp hl hh
   obtain ⟨h1,h2⟩:=List.pairwise_cons.1 hp
   have:=ih b h2 (fun x hx=>h1 x hx) (fun x hx=>hh x (by simp [hx]))
   have:=hl b (by simp)
   have:=hh b (by simp)
   simp only [List.length_cons]; omega
 have:=key l 0 h.up (fun x hx=>by have:=h.lo x hx; omega) h.hi
 omega
theorem box_fit {n:Nat} {l:List Int} (h:ni n l) (hn:n < 2 ^ 40):Mail.Fit l ((n:Int) + 1) :=
 ⟨fun x hx=>by have:=h.hi x hx; omega,h.up,by have:=box_len h; omega⟩
theorem box_more {n m:Nat} {l:List Int} (h:ni n l) (hn:n <= m):ni m l:=⟨h.up,h.lo,fun x hx=>by have:=h.hi x hx; omega⟩
theorem box_push {n:Nat} {l:List Int} (h:ni n l):ni (n + 1) (l++[(n:Int) + 1]):=by
 refine ⟨List.pairwise_append.2 ⟨h.up,List.pairwise_singleton _ _,fun a ha b hb=>?_⟩,fun x hx=>?_,fun x hx=>?_⟩
 ·rw [List.mem_singleton.1 hb]; have:=h.hi a ha; omega
 ·rcases List.mem_append.1 hx with h1 | h1
  ·exact h.lo x h1
  ·rw [List.mem_singleton.1 h1]; omega
 ·rcases List.mem_append.1 hx with h1 | h1
  ·have:=h.hi x h1; omega
  ·rw [List.mem_singleton.1 h1]; omega
theorem box_drop {n:Nat} {l:List Int} (h:ni n l):ni n (l.drop 1) :=
 ⟨h.up.sublist (List.drop_sublist 1 l),fun x hx=>h.lo x (List.mem_of_mem_drop hx),fun x hx=>h.hi x (List.mem_of_mem_drop hx)⟩
theorem boxes_set {bs:Mail.S} {n:Nat} (h:∀ l ∈ bs,ni n l) (i:Nat) {b:List Int} (hb:ni n b):∀ l ∈ bs.set i b,ni n l:=by
 intro l hl
 rcases List.mem_or_eq_of_mem_set hl with h1 | h1
 ·exact h l h1
 ·subst h1; exact hb
theorem box_of {bs:Mail.S} {n:Nat} (h:∀ l ∈ bs,ni n l) (c:Int):ni n (Mail.box bs c):=by
 unfold Mail.box
 by_cases hi:c.toNat < bs.length
 ·simp [hi]; exact h _ (getElem_mem hi)
 ·simp [getD_eq_getElem?_getD,getElem?_eq_none (le_of_not_lt hi)]
  exact ⟨.nil,fun x hx=>(by cases hx),fun x hx=>(by cases hx)⟩
theorem boxes_send {bs:Mail.S} {n:Nat} (f t:Int) (h:∀ l ∈ bs,ni (n + 1) l) (ht:ni n (Mail.box bs t)):∀ l ∈ (Mail.send bs f t ((n:Int) + 1)).2,ni (n + 1) l:=by
 unfold Mail.send
 split
 ·exact boxes_set h _ (box_push ht)
 ·exact h
theorem boxes_sends {bs:Mail.S} {n:Nat} (f:Int) (h:∀ l ∈ bs,ni n l):∀ j,j <= bs.length->∀ l ∈ (Mail.sends bs f ((n:Int) + 1) j).2,ni (n + 1) l
 | 0,_=>fun l hl=>box_more (h l hl) (by omega)
 | j + 1,hj=>by
  have ih:=boxes_sends f h j (by omega)
  have hb:Mail.box (Mail.sends bs f ((n:Int) + 1) j).2 j = Mail.box bs j:=by
   unfold Mail.box
   rw [toNat_natCast,getD_eq_getElem?_getD,getD_eq_getElem?_getD,Mail.sends_ge bs f _ j j (le_refl _)]
  have:=boxes_send f (j:Int) ih (by rw [hb]; exact box_of h _)
  unfold Mail.sends
  split <;> exact this
theorem wrapN {n:Int} (h0:0 <= n) (h1:n < 2 ^ 40):i64.wrap (n + 1) = n + 1:=bm (by omega) (by omega)
theorem calls_set {k:KK} (ok:KK.Ok k) (i:Nat) {o:Option KC} {n:Int} (hn:(k.events.length:Int) <= n) (ho:∀ x,o = some x->0 <= x.fat/\x.fat < n/\0 <= x.fFa/\x.fFa < k.p.s.fJa):∀ x,some x ∈ k.calls.set i o->0 <= x.fat/\x.fat < n/\0 <= x.fFa/\x.fFa < k.p.s.fJa:=by
 intro x hx
 rcases List.mem_or_eq_of_mem_set hx with h1 | h1
 ·have:=ok.cs x h1; omega
 ·exact ho x h1.symm
theorem kok_new {s:fQ} (h:PK.sized s = true):KK.Ok (KK.new s):=by
 have hs:=gb.1 h
 refine ⟨ok_new h,?_,?_,?_,?_,?_,Int.le_refl _,Int.le_refl _,Int.le_refl _,?_⟩
 ·simp [KK.new,PK.new]; omega
 ·simp [KK.new,PK.new]; omega
 ·simp [KK.new,PK.new]; omega
 ·simp [KK.new,PK.new]; omega
 ·intro x hx
  have:=(List.mem_replicate.1 hx).2
  cases this
 ·intro l hl
  rw [(List.mem_replicate.1 hl).2]
  exact ⟨.nil,fun x hx=>(by cases hx),fun x hx=>(by cases hx)⟩
theorem kok_begin {k:KK} (ok:KK.Ok k) (hn:k.now < 2 ^ 40) (core env:Int) (c:dp):KK.Ok (KK.begin_ k core env c).2:=by
 unfold KK.begin_
 split
 ·exact ok
 ·rename_i h
  have h1:=ok.n0
  have h2:=ok.evn
  have h3:=ok.epn
  simp at h
  have hw:=wrapN h1 hn
  refine ⟨ok.p,ok.tl,ok.bl,ok.el,by simpa using ok.cl,?_,by simp only [hw]; omega,by simp only [hw,length_append,length_singleton]; omega,by simp only [hw]; omega,ok.bx⟩
  simp only [length_append,length_singleton]
  refine calls_set ok _ (by omega) fun x hx=>?_
  cases hx
  simp only; omega
theorem kok_tick {k:KK} (ok:KK.Ok k) (hn:k.now < 2 ^ 40):KK.Ok (KK.tick k):=by
 have h1:=ok.n0
 have h2:=ok.evn
 have h3:=ok.epn
 have hw:=wrapN h1 hn
 unfold KK.tick
 exact ⟨ok.p,ok.tl,ok.bl,ok.el,ok.cl,ok.cs,by simp only [hw]; omega,by simp only [hw]; omega,by simp only [hw]; omega,ok.bx⟩
theorem kok_tlbs {k:KK} (ok:KK.Ok k) (i:Nat) (b:Buf):KK.Ok { k with fMa:=k.fMa.set i b }:=⟨ok.p,by simpa using ok.tl,ok.bl,ok.el,ok.cl,ok.cs,ok.n0,ok.evn,ok.epn,ok.bx⟩
theorem kok_p {k:KK} (ok:KK.Ok k) {p:PK} (h:PK.Ok p) (hs:p.s = k.p.s):KK.Ok { k with p:=p } :=
 ⟨h,by rw [hs]; exact ok.tl,by rw [hs]; exact ok.bl,by rw [hs]; exact ok.el,by rw [hs]; exact ok.cl,by rw [hs]; exact ok.cs,ok.n0,ok.evn,ok.epn,ok.bx⟩
theorem kok_ends {k:KK} (ok:KK.Ok k) (c:Int) (x:KC) (a:fe) (l:jM):KK.Ok (KK.ends k c x a l):=by
 unfold KK.ends
 refine ⟨ok.p,ok.tl,ok.bl,ok.el,by simpa using ok.cl,?_,ok.n0,by simpa using ok.evn,ok.epn,ok.bx⟩
 simp only [length_set]
 exact calls_set ok _ (Int.le_refl _) fun x hx=>by cases hx
theorem touch_s (k:PK) (f:Int) (c:dp):(PK.touch k f c).2.s = k.s:=by
 unfold PK.touch
 repeat' split
 all_goals rfl
theorem alloc_s (k:PK) (e s:Int):(PK.alloc k e s).2.s = k.s:=by
 unfold PK.alloc
 repeat' split
 all_goals rfl
theorem derive_s (k:PK) (e a b c d:Int):(PK.derive k e a b c d).2.s = k.s:=by
 unfold PK.derive
 repeat' split
 all_goals rfl
theorem gone_size (f:Int):∀ (l:List bZ) (k:PK),(PK.gone k f l).s = k.s
 | [],_=>rfl
 | _::l,_=>by rw [PK.gone,gone_size f l]
theorem revoke_s (k:PK) (e s:Int) (w:Bool):(PK.revoke k e s w).2.s = k.s:=by
 unfold PK.revoke
 split
 ·rfl
 ·split <;> simp only [gone_size]
theorem maps_s (k:PK) (e a b c:Int):(PK.maps k e a b c).2.s = k.s:=by
 unfold PK.maps
 repeat' split
 all_goals rfl
theorem protect_s (k:PK) (e a b:Int):(PK.protect k e a b).2.s = k.s:=by
 unfold PK.protect
 repeat' split
 all_goals rfl
theorem user_s (k:PK) (e:Int) (c:dp):(PK.user k e c).2.s = k.s:=by
 unfold PK.user; split
 ·rfl
 ·exact touch_s _ _ _
theorem does_s (k:PK) (e:Int) (c:dp):(PK.does k e c).2.s = k.s:=by
 unfold PK.does PK.errs
 repeat' split
 all_goals first | rfl | exact alloc_s _ _ _ | exact derive_s _ _ _ _ _ _ | exact revoke_s _ _ _ _ | exact maps_s _ _ _ _ _ | exact protect_s _ _ _ _ | exact user_s _ _ _
theorem do_s (k:PK) (e:Int) (c:dp):(PK.do_ k e c).2.s = k.s:=by
 unfold PK.do_; split
 ·rfl
 ·split
  ·rfl
  ·exact does_s _ _ _
theorem kok_access {k:KK} (ok:KK.Ok k) (c:Int) (x:KC):KK.Ok (KK.access k c x).2:=by
 unfold KK.access
 split
 ·exact ok
 ·split
  ·exact kok_tlbs ok _ _
  ·have h1:=kok_tlbs ok c.toNat (KK.fZa k c x).2
   exact kok_p h1 (ok_touch ok.p _ _) (touch_s _ _ _)
theorem kok_clean {k:KK} (ok:KK.Ok k) (c:Int):KK.Ok (KK.clean k c):=kok_tlbs ok _ _
theorem call_ok {k:KK} (ok:KK.Ok k) {c:Int} {x:KC} (h:KK.call k c = some x):0 <= x.fat/\x.fat < k.events.length/\0 <= x.fFa/\x.fFa < k.p.s.fJa:=by
 refine ok.cs x ?_
 unfold KK.call at h
 by_cases hi:c.toNat < k.calls.length
 ·simp [hi] at h; rw [← h]; exact getElem_mem hi
 ·simp [getD_eq_getElem?_getD,getElem?_eq_none (le_of_not_lt hi)] at h
theorem kok_call {k:KK} (ok:KK.Ok k) (c:Int) {x y:KC} (h:KK.call k c = some x) (h1:y.fat = x.fat) (h2:y.fFa = x.fFa):KK.Ok { k with calls:=k.calls.set c.toNat (some y) }:=by
 have hc:=call_ok ok h
 refine ⟨ok.p,ok.tl,ok.bl,ok.el,by simpa using ok.cl,calls_set ok _ (Int.le_refl _) fun z hz=>?_,ok.n0,ok.evn,ok.epn,ok.bx⟩
 cases hz
 show 0 <= y.fat/\y.fat < (k.events.length:Int)/\0 <= y.fFa/\y.fFa < k.p.s.fJa
 omega
theorem call_set_same {k:KK} {c:Int} {x y:KC} (h:KK.call k c = some x):({ k with calls:=k.calls.set c.toNat (some y) }:KK).call c = some y:=by
 unfold KK.call at h ⊢
 by_cases hi:c.toNat < k.calls.length
 ·simp [hi]
 ·simp [getD_eq_getElem?_getD,getElem?_eq_none (le_of_not_lt hi)] at h
theorem kok_send {k:KK} (ok:KK.Ok k) (hn:(k.fGa.1.length:Int) + 1 <= k.now) {c:Int} {x:KC} (hc:KK.call k c = some { x with fRa:=true }) (hi:KK.is k c = true):KK.Ok (KK.send k c x):=by
 have hc':=call_ok ok hc
 simp only at hc'
 have he:fNa.is k.fGa c = true:=by
  unfold KK.is at hi
  have h1:=of_decide_eq_true hi
  have:=ok.el
  have:=ok.cl
  unfold fNa.is
  exact decide_eq_true (by omega)
 have eb:fNa.begin_ k.fGa c = (((k.fGa.1.length:Int) + 1,true),(k.fGa.1++[c],k.fGa.2)):=if_pos he
 unfold KK.send
 rw [eb]
 refine ⟨ok.p,ok.tl,by rw [← ok.bl]; simp only [Mail.sends_len],ok.el,by simpa using ok.cl,calls_set ok _ (Int.le_refl _) fun z hz=>?_,ok.n0,ok.evn,by simp; omega,?_⟩
 ·cases hz; exact hc'
 ·simp only [length_append,length_singleton]
  exact boxes_sends c ok.bx _ (le_refl _)
theorem kok_work {k:KK} (ok:KK.Ok k) (hn:(k.fGa.1.length:Int) + 1 <= k.now) {c:Int} {x:KC} (hc:KK.call k c = some x) (hi:KK.is k c = true):KK.Ok (KK.work k c x):=by
 unfold KK.work
 split
 ·exact kok_ends (kok_access ok c x) _ _ _ _
 ·split
  ·refine kok_send (kok_clean (kok_call ok c hc (y:={ x with fRa:=true }) rfl rfl) c) hn ?_ ?_
   ·exact call_set_same hc
   ·unfold KK.is at hi ⊢
    show decide (0 <= c/\c < ((k.calls.set c.toNat _).length:Int)) = true
    rw [length_set]; exact hi
  ·split
   ·exact ok
   ·split
    ·exact kok_ends (kok_p ok (ok_do ok.p _ _) (do_s _ _ _)) _ _ _ _
    ·exact kok_p ok (ok_do ok.p _ _) (do_s _ _ _)
theorem busy_is {k:KK} {c:Int} (h:KK.busy k c = true):KK.is k c = true/\∃ x,KK.call k c = some x:=by
 unfold KK.busy at h
 rw [and_eq_true,Option.isSome_iff_exists] at h
 exact h
theorem kok_post {k:KK} (ok:KK.Ok k) (hn:k.now < 2 ^ 40) (c:Int):KK.Ok (KK.post k c).2:=by
 unfold KK.post
 split
 ·exact ok
 ·split
  ·exact ok
  ·have o1:=kok_tick ok hn
   have hb:∀ l ∈ (Mail.take k.fLa c).2,ni k.fGa.1.length l:=by
    unfold Mail.take; split
    ·exact ok.bx
    ·exact boxes_set ok.bx _ (box_drop (box_of ok.bx c))
   have hbl:(Mail.take k.fLa c).2.length = k.fLa.length:=by unfold Mail.take; split <;> simp
   have ha:(fNa.ack k.fGa c (Mail.take k.fLa c).1.1).2.1 = k.fGa.1/\(fNa.ack k.fGa c (Mail.take k.fLa c).1.1).2.2.length = k.fGa.2.length:=by
    unfold fNa.ack; split <;> simp
   refine ⟨ok.p,?_,?_,?_,ok.cl,ok.cs,o1.n0,o1.evn,?_,?_⟩
   ·simp only [KK.clean,KK.tick,length_set]; exact ok.tl
   ·simp only [KK.clean,KK.tick,hbl]; exact ok.bl
   ·simp only [KK.clean,KK.tick,ha.2]; exact ok.el
   ·show ((fNa.ack k.fGa c (Mail.take k.fLa c).1.1).2.1.length:Int) <= _
    rw [ha.1]; exact o1.epn
   ·show ∀ l ∈ (Mail.take k.fLa c).2,ni (fNa.ack k.fGa c (Mail.take k.fLa c).1.1).2.1.length l
    rw [ha.1]; exact hb
theorem kok_evict {k:KK} (ok:KK.Ok k) (hn:k.now < 2 ^ 40) (c s w:Int):KK.Ok (KK.evict k c s w).2:=by
 unfold KK.evict
 split
 ·exact ok
 ·split
  ·exact ok
  ·exact kok_tlbs (kok_tick ok hn) _ _
end
section
open Go Mb
namespace Tlb
theorem ln_set {ls:List TL} (hl:ls.length = 8) {n:Nat} (hn:n < 8) (y:TL) (i:Nat):ln (ls.set n y) i = if i = n then y else ln ls i:=by
 simp only [ln,getD_eq_getElem?_getD,getElem?_set]
 by_cases e:n = i
 ·subst e; simp [hl,hn]
 ·rw [if_neg e,if_neg (fun h=>e h.symm)]
abbrev bs (p:Int):Nat:=(p.tmod 4).toNat * 2
theorem bs_lt {p:Int} (h:0 <= p):bs p + 1 < 8:=by
 obtain ⟨q,h1,h2⟩:=tmod4 h
 unfold bs; rw [h1]; simp; omega
theorem at_iff {ls:List TL} {e p:Int} {n:Nat}:at_ ls e p = some n↔(0 <= e/\0 <= p/\p < 8)/\(n = bs p/\hit ls e p (bs p)\/n = bs p + 1/\hit ls e p (bs p + 1)/\¬ hit ls e p (bs p)):=by
 unfold at_
 by_cases h:e < 0\/p < 0\/p >= 8
 ·rw [if_pos h]
  constructor
  ·intro x; cases x
  ·rintro ⟨x,_⟩; omega
 ·rw [if_neg h]
  by_cases h1:hit ls e p (bs p)
  ·rw [if_pos h1]
   constructor
   ·intro x; cases x; exact ⟨by omega,.inl ⟨rfl,h1⟩⟩
   ·rintro ⟨_,⟨rfl,_⟩ | ⟨_,_,h2⟩⟩
    ·rfl
    ·exact absurd h1 h2
  ·rw [if_neg h1]
   by_cases h2:hit ls e p (bs p + 1)
   ·rw [if_pos h2]
    constructor
    ·intro x; cases x; exact ⟨by omega,.inr ⟨rfl,h2,h1⟩⟩
    ·rintro ⟨_,⟨_,h3⟩ | ⟨rfl,_⟩⟩
     ·exact absurd h3 h1
     ·rfl
   ·rw [if_neg h2]
    constructor
    ·intro x; cases x
    ·rintro ⟨_,⟨_,h3⟩ | ⟨_,h3,_⟩⟩
     ·exact absurd h3 h1
     ·exact absurd h3 h2
theorem at_hit {ls:List TL} {e p:Int} {n:Nat} (h:at_ ls e p = some n):(ln ls n).fl.fCa = e/\(ln ls n).fl.fPa = p:=by
 rcases (at_iff.1 h).2 with ⟨e1,h1⟩ | ⟨e1,h1,_⟩
 ·rw [e1]; exact h1
 ·rw [e1]; exact h1
structure TOk (t:Buf):Prop where
 len:t.1.length = 8
 at_:∀ i,i < 8->0 <= (ln t.1 i).fl.fCa->at_ t.1 (ln t.1 i).fl.fCa (ln t.1 i).fl.fPa = some i
theorem mem_lines {t:Buf} (h:t.1.length = 8) {l:jM}:l ∈ lines t↔∃ i,i < 8/\l = (ln t.1 i).fl:=by
 unfold lines
 rw [List.mem_map]
 constructor
 ·rintro ⟨x,hx,rfl⟩
  obtain ⟨i,hi,rfl⟩:=List.getElem_of_mem hx
  exact ⟨i,by omega,by simp [ln,hi]⟩
 ·rintro ⟨i,hi,rfl⟩
  have:i < t.1.length:=by omega
  exact ⟨t.1[i],getElem_mem this,by simp [ln,this]⟩
theorem tok_new:TOk tlb0:=by
 refine ⟨rfl,fun i hi h=>?_⟩
 have key:∀ i,i < 8->(ln tlb0.1 i).fl.fCa = -1:=by decide
 rw [key i hi] at h
 exact absurd h (by decide)
theorem tok_clear {t:Buf} (h:TOk t) {n:Nat} (hn:n < 8) {y:TL} (hy:y.fl.fCa < 0) (m:Int):TOk (t.1.set n y,m):=by
 refine ⟨by simpa using h.len,fun i hi he=>?_⟩
 simp only at he ⊢
 rw [ln_set h.len hn] at he ⊢
 by_cases e:i = n
 ·rw [if_pos e] at he; omega
 ·rw [if_neg e] at he ⊢
  have h1:=at_iff.1 (h.at_ i hi he)
  have keep:∀ j,hit (t.1.set n y) (ln t.1 i).fl.fCa (ln t.1 i).fl.fPa j↔j ≠ n/\hit t.1 (ln t.1 i).fl.fCa (ln t.1 i).fl.fPa j:=by
   intro j
   unfold hit
   rw [ln_set h.len hn]
   by_cases ej:j = n
   ·rw [if_pos ej]
    constructor
    ·intro x; omega
    ·intro x; exact absurd ej x.1
   ·rw [if_neg ej]; simp [ej]
  refine at_iff.2 ⟨h1.1,?_⟩
  rcases h1.2 with ⟨a,b⟩ | ⟨a,b,c⟩
  ·exact .inl ⟨a,(keep _).2 ⟨a ▸ e,b⟩⟩
  ·exact .inr ⟨a,(keep _).2 ⟨a ▸ e,b⟩,fun x=>c ((keep _).1 x).2⟩
theorem flush_eq {t:Buf} {e p:Int}:flush t e p = (match at_ t.1 e p with | some n=>(true,t.1.set n { ln t.1 n with fl:=dR },t.2) | none=>(false,t)):=rfl
theorem lines_clear {t:Buf} (h:TOk t) {n:Nat} (hn:n < 8) {y:TL} (hy:y.fl.fCa < 0) {m:Int} {l:jM} (hl:l ∈ lines (t.1.set n y,m)) (he:0 <= l.fCa):∃ i,i < 8/\i ≠ n/\l = (ln t.1 i).fl:=by
 obtain ⟨i,hi,rfl⟩:=(mem_lines (by simpa using h.len)).1 hl
 simp only at he ⊢
 rw [ln_set h.len hn] at he ⊢
 by_cases e:i = n
 ·rw [if_pos e] at he; omega
 ·rw [if_neg e]; exact ⟨i,hi,e,rfl⟩
theorem tok_flush {t:Buf} (h:TOk t) (e p:Int):TOk (flush t e p).2:=by
 rw [flush_eq]
 split
 ·rename_i n hn
  exact tok_clear h (at_lt hn) (by show (-1:Int) < 0; omega) _
 ·exact h
theorem lines_flush {t:Buf} (h:TOk t) {e p:Int} {l:jM} (hl:l ∈ lines (flush t e p).2) (he:0 <= l.fCa):l ∈ lines t/\¬ (l.fCa = e/\l.fPa = p):=by
 rw [flush_eq] at hl
 split at hl
 ·rename_i n hn
  obtain ⟨i,hi,hne,rfl⟩:=lines_clear h (at_lt hn) (by show (-1:Int) < 0; omega) hl he
  refine ⟨(mem_lines h.len).2 ⟨i,hi,rfl⟩,?_⟩
  rintro ⟨rfl,rfl⟩
  have:=h.at_ i hi he
  rw [hn] at this
  exact hne (Option.some.inj this).symm
 ·rename_i hn
  refine ⟨hl,?_⟩
  rintro ⟨rfl,rfl⟩
  obtain ⟨i,hi,rfl⟩:=(mem_lines h.len).1 hl
  rw [h.at_ i hi he] at hn
  cases hn
theorem evict_in {t:Buf} (h:TOk t) (s w:Int):TOk (evict t s w).2/\∀ l ∈ lines (evict t s w).2,0 <= l.fCa->l ∈ lines t:=by
 unfold evict
 split
 ·exact ⟨h,fun l hl _=>hl⟩
 ·rename_i c
  split
  ·exact ⟨h,fun l hl _=>hl⟩
  ·have hn:s.toNat * 2 + w.toNat < 8:=by omega
   refine ⟨tok_clear h hn (by show (-1:Int) < 0; omega) _,fun l hl he=>?_⟩
   obtain ⟨i,hi,_,rfl⟩:=lines_clear h hn (by show (-1:Int) < 0; omega) hl he
   exact (mem_lines h.len).2 ⟨i,hi,rfl⟩
theorem room_in (ls:List TL) (p:Int):room ls (bs p) = bs p\/room ls (bs p) = bs p + 1:=by
 unfold room; repeat' split
 all_goals simp
theorem place_in {ls:List TL} {a:jM} (hp:0 <= a.fPa):place ls a = bs a.fPa\/place ls a = bs a.fPa + 1:=by
 unfold place
 split
 ·rename_i n hn
  rcases (at_iff.1 hn).2 with h | h
  ·exact .inl h.1
  ·exact .inr h.1
 ·exact room_in ls a.fPa
theorem tok_fill {t:Buf} (h:TOk t) (a:jM):TOk (fill t a).2/\∀ l ∈ lines (fill t a).2,0 <= l.fCa->l = a/\¬ bad a\/l ∈ lines t:=by
 unfold fill
 split
 ·exact ⟨h,fun l hl _=>.inr hl⟩
 ·rename_i hb
  have hb':0 <= a.fCa/\0 <= a.fPa/\a.fPa < 8:=by unfold bad at hb; omega
  have hpl:=place_in (ls:=t.1) hb'.2.1
  have hbs:=bs_lt hb'.2.1
  have hn:place t.1 a < 8:=by omega
  have eG:=ln_set h.len hn (⟨a,i64.wrap (t.2 + 1)⟩:TL)
  have other:∀ i,i < 8->i ≠ place t.1 a->0 <= (ln t.1 i).fl.fCa->¬ ((ln t.1 i).fl.fCa = a.fCa/\(ln t.1 i).fl.fPa = a.fPa):=by
   rintro i hi hne he ⟨e1,e2⟩
   have:=h.at_ i hi he
   rw [e1,e2] at this
   unfold place at hne
   rw [this] at hne
   exact hne rfl
  refine ⟨⟨by simpa using h.len,fun i hi he=>?_⟩,fun l hl he=>?_⟩
  ·simp only at he ⊢
   rw [eG] at he ⊢
   by_cases e:i = place t.1 a
   ·rw [if_pos e] at he ⊢
    refine at_iff.2 ⟨hb',?_⟩
    have hself:hit (t.1.set (place t.1 a) ⟨a,i64.wrap (t.2 + 1)⟩) a.fCa a.fPa (place t.1 a):=by unfold hit; rw [eG,if_pos rfl]; exact ⟨rfl,rfl⟩
    rcases hpl with h1 | h1
    ·exact .inl ⟨e.trans h1,by rw [h1] at hself ⊢; exact hself⟩
    ·refine .inr ⟨e.trans h1,by rw [h1] at hself ⊢; exact hself,fun hx=>?_⟩
     have hx:hit (t.1.set (place t.1 a) ⟨a,i64.wrap (t.2 + 1)⟩) a.fCa a.fPa (bs a.fPa):=hx
     unfold hit at hx
     rw [eG,if_neg (by rw [h1]; omega)] at hx
     exact other _ (by omega) (by rw [h1]; omega) (by rw [hx.1]; exact hb'.1) hx
   ·rw [if_neg e] at he ⊢
    have h1:=at_iff.1 (h.at_ i hi he)
    have ho:=other i hi e he
    have keep:∀ j,hit (t.1.set (place t.1 a) ⟨a,i64.wrap (t.2 + 1)⟩) (ln t.1 i).fl.fCa (ln t.1 i).fl.fPa j↔j ≠ place t.1 a/\hit t.1 (ln t.1 i).fl.fCa (ln t.1 i).fl.fPa j:=by
     intro j
     unfold hit
     rw [eG]
     by_cases ej:j = place t.1 a
     ·rw [if_pos ej]
      constructor
      ·rintro ⟨x,y⟩; exact absurd ⟨x.symm,y.symm⟩ ho
      ·intro x; exact absurd ej x.1
     ·rw [if_neg ej]; simp [ej]
    refine at_iff.2 ⟨h1.1,?_⟩
    rcases h1.2 with ⟨x,y⟩ | ⟨x,y,z⟩
    ·exact .inl ⟨x,(keep _).2 ⟨x ▸ e,y⟩⟩
    ·exact .inr ⟨x,(keep _).2 ⟨x ▸ e,y⟩,fun u=>z ((keep _).1 u).2⟩
  ·obtain ⟨i,hi,rfl⟩:=(mem_lines (by simpa using h.len)).1 hl
   simp only at he ⊢
   rw [eG] at he ⊢
   by_cases e:i = place t.1 a
   ·rw [if_pos e]; exact .inl ⟨rfl,hb⟩
   ·rw [if_neg e]; exact .inr ((mem_lines h.len).2 ⟨i,hi,rfl⟩)
theorem find_in {t:Buf} (h:TOk t) {e p:Int} (hf:(find t.1 e p).2 = true):(find t.1 e p).1 ∈ lines t/\(find t.1 e p).1.fCa = e/\(find t.1 e p).1.fPa = p/\0 <= e:=by
 unfold find at hf ⊢
 split at hf
 ·rename_i n hn
  simp only [hn]
  have:=at_hit hn
  exact ⟨(mem_lines h.len).2 ⟨n,at_lt hn,rfl⟩,this.1,this.2,(at_iff.1 hn).1.1⟩
 ·cases hf
end Tlb
theorem cleans_spec (k:KK):∀ (L:List jM) {b:Buf},Tlb.TOk b->Tlb.TOk (KK.cleans k L b)/\∀ l ∈ Tlb.lines (KK.cleans k L b),0 <= l.fCa->l ∈ Tlb.lines b/\∀ d ∈ L,KK.stale k d = true->¬ (l.fCa = d.fCa/\l.fPa = d.fPa)
 | [],b,h=>⟨h,fun l hl _=>⟨hl,fun d hd=>by cases hd⟩⟩
 | d::L,b,h=>by
  rw [KK.cleans]
  split
  ·rename_i hs
   have h1:=Tlb.tok_flush h d.fCa d.fPa
   obtain ⟨i1,i2⟩:=cleans_spec k L h1
   refine ⟨i1,fun l hl he=>?_⟩
   obtain ⟨j1,j2⟩:=i2 l hl he
   obtain ⟨k1,k2⟩:=Tlb.lines_flush h j1 he
   refine ⟨k1,fun x hx hsx=>?_⟩
   rcases mem_cons.1 hx with rfl | hx
   ·exact k2
   ·exact j2 x hx hsx
  ·rename_i hs
   obtain ⟨i1,i2⟩:=cleans_spec k L h
   refine ⟨i1,fun l hl he=>?_⟩
   obtain ⟨j1,j2⟩:=i2 l hl he
   refine ⟨j1,fun x hx hsx=>?_⟩
   rcases mem_cons.1 hx with rfl | hx
   ·exact absurd hsx hs
   ·exact j2 x hx hsx
theorem cleans_all {k:KK} {b:Buf} (h:Tlb.TOk b):Tlb.TOk (KK.cleans k (Tlb.lines b) b)/\∀ l ∈ Tlb.lines (KK.cleans k (Tlb.lines b) b),0 <= l.fCa->l ∈ Tlb.lines b/\KK.stale k l = false:=by
 obtain ⟨h1,h2⟩:=cleans_spec k (Tlb.lines b) h
 refine ⟨h1,fun l hl he=>?_⟩
 obtain ⟨a,c⟩:=h2 l hl he
 refine ⟨a,?_⟩
 cases hs:KK.stale k l with
 | false=>rfl
 | true=>exact absurd ⟨rfl,rfl⟩ (c l a hs)
end
section
open Go Mb
theorem may3 {r:Int} (h:1 <= r/\r <= 3):r = 1\/r = 2\/r = 3:=by omega
theorem within_and {a b c:Int} (hb:1 <= b/\b <= 3) (hc:1 <= c/\c <= 3):aP a (iand .i64 b c) = true↔aP a b = true/\aP a c = true:=by
 by_cases ha:1 <= a/\a <= 3
 ·rcases may3 ha with rfl | rfl | rfl <;> rcases may3 hb with rfl | rfl | rfl <;> rcases may3 hc with rfl | rfl | rfl <;> decide
 ·constructor
  ·intro h; exact absurd (dr h).1 ha
  ·intro h; exact absurd (dr h.1).1 ha
theorem iand_le {b c:Int} (hb:1 <= b/\b <= 3) (hc:1 <= c/\c <= 3):0 <= iand .i64 b c/\iand .i64 b c <= 3:=by
 rcases may3 hb with rfl | rfl | rfl <;> rcases may3 hc with rfl | rfl | rfl <;> decide
theorem within_refl {a:Int} (h:1 <= a/\a <= 3):aP a a = true:=by rcases may3 h with rfl | rfl | rfl <;> decide
structure Cov (p:Pte) (l:jM):Prop where
 f:p.fEa = l.fEa
 w:aP l.fBa p.fBa = true
theorem Cov.r {p:Pte} {l:jM} (h:Cov p l):1 <= p.fBa/\p.fBa <= 3:=(dr h.w).2
theorem not_cov0 {l:jM}:¬ Cov dn l:=fun h=>by have:=h.r; simp at this
structure Stay (p:PK) (e:Int) (c:dp) (a pg s r:Int):Prop where
 s7:c.e0 = 7->¬ (e = a/\c.e1 = pg)
 s8:c.e0 = 8->e = a->c.e1 = pg->aP c.e2 (fAa.get p.caps a s).fBa = true->aP r c.e2 = true
 s4:c.e0 = 4\/c.e0 = 5->PK.gz p e c a s = false
theorem Stay.keep {p p':PK} {e:Int} {c:dp} {a pg s r:Int} (h:Stay p e c a pg s r) (k:fAa.Keep p.caps p'.caps a s) (hl:p'.caps.length = p.caps.length):Stay p' e c a pg s r:=by
 refine ⟨h.s7,fun h1 h2 h3 h4=>h.s8 h1 h2 h3 (by rw [← k.g]; exact h4),fun h1=>?_⟩
 have:=h.s4 h1
 unfold PK.gz at this ⊢
 have hh:fAa.has p'.caps a s = fAa.has p.caps a s:=by unfold fAa.has; rw [hl]
 rw [hh,k.g,k.u]
 exact this
theorem aft_cov {p:PK} {e:Int} {c:dp} {a pg:Int} {l:jM} (ht:Tk c) (hc:Cov (PK.q p a pg) l) (hs:Stay p e c a pg (PK.q p a pg).fDa l.fBa):Cov (PK.aft p e c a pg) l/\(PK.aft p e c a pg).fDa = (PK.q p a pg).fDa:=by
 unfold PK.aft
 by_cases h7:c.e0 = 7
 ·rw [if_pos h7,if_neg (hs.s7 h7)]; exact ⟨hc,rfl⟩
 ·rw [if_neg h7]
  by_cases h8:c.e0 = 8
  ·rw [if_pos h8]
   split
   ·rename_i h
    obtain ⟨⟨rfl,rfl⟩,h1,h2⟩:=h
    exact ⟨⟨hc.f,hs.s8 h8 rfl rfl h2⟩,rfl⟩
   ·exact ⟨hc,rfl⟩
  ·rw [if_neg h8,if_neg]
   ·exact ⟨hc,rfl⟩
   ·rintro ⟨_,h⟩
    rw [hs.s4 (by unfold Tk at ht; omega)] at h
    cases h
theorem at_rights {t:fAa.T} {e s:Int} (h:fAa.has t e s = true):(fAa.at_ t e s).1.fBa = (fAa.get t e s).fBa:=by
 unfold fAa.at_
 by_cases hr:(fAa.get t e s).fBa ≠ 0
 ·rw [if_pos ⟨h,hr⟩]
 ·rw [if_neg (fun x=>hr x.2)]
  have:(fAa.get t e s).fBa = 0:=by simpa using hr
  rw [this]
structure Teller (n:Int) (x:KC):Prop where
 t:Tk x.fc
 k:Word.check x.fc n = 0
 w:Cw x.fc
theorem left_cov {p:PK} {x:KC} {a pg:Int} {l:jM} {qq:Pte} (hn:1 <= p.s.fJa/\p.s.fJa <= 4) (T:Teller p.s.fJa x) (hb:fAa.has p.caps a qq.fDa = true) (hq:1 <= qq.fBa/\qq.fBa <= 3) :
  (Cov (KK.left p x a pg qq) l↔Cov qq l/\Stay p x.fFa x.fc a pg qq.fDa l.fBa)/\((KK.left p x a pg qq).fBa ≠ 0->(KK.left p x a pg qq).fDa = qq.fDa/\1 <= (KK.left p x a pg qq).fBa/\(KK.left p x a pg qq).fBa <= 3):=by
 have w:=uL hn.1 hn.2 T.k
 have ht:=T.t
 have h1:i64.wrap x.fc.e1 = x.fc.e1:=kwr T.w.c1 (by have:=w.w1 (by unfold Tk at ht; omega); omega)
 have hg:KK.goes p x a qq.fDa = PK.gz p x.fFa x.fc a qq.fDa:=by unfold KK.goes PK.gz; rw [h1]
 unfold KK.left
 rw [h1]
 by_cases h7:x.fc.e0 = 7
 ·rw [if_pos h7]
  by_cases ho:x.fFa = a/\x.fc.e1 = pg
  ·rw [if_pos ho]
   refine ⟨⟨fun h=>absurd h not_cov0,fun h=>absurd ho (h.2.s7 h7)⟩,fun h=>absurd rfl h⟩
  ·rw [if_neg ho]
   refine ⟨⟨fun h=>⟨h,⟨fun _=>ho,fun h8=>by omega,fun h45=>by omega⟩⟩,fun h=>h.1⟩,fun _=>⟨rfl,hq⟩⟩
 ·rw [if_neg h7]
  by_cases h8:x.fc.e0 = 8
  ·have h5:=w.w5 h8
   have h2:i64.wrap x.fc.e2 = x.fc.e2:=kwr T.w.c2 (by omega)
   rw [if_pos h8,h2,at_rights hb]
   by_cases ho:(x.fFa = a/\x.fc.e1 = pg)/\aP x.fc.e2 (fAa.get p.caps a qq.fDa).fBa = true
   ·rw [if_pos ho]
    have hw:=within_and (a:=l.fBa) hq h5
    refine ⟨⟨fun h=>?_,fun h=>?_⟩,fun h=>⟨rfl,?_⟩⟩
    ·have h3:=hw.1 h.w
     exact ⟨⟨h.f,h3.1⟩,⟨fun h=>by omega,fun _ _ _ _=>h3.2,fun h=>by omega⟩⟩
    ·exact ⟨h.1.f,hw.2 ⟨h.1.w,h.2.s8 h8 ho.1.1 ho.1.2 ho.2⟩⟩
    ·have h6:=iand_le hq h5
     have h:iand .i64 qq.fBa x.fc.e2 ≠ 0:=h
     show 1 <= iand .i64 qq.fBa x.fc.e2/\iand .i64 qq.fBa x.fc.e2 <= 3
     omega
   ·rw [if_neg ho]
    exact ⟨⟨fun h=>⟨h,⟨fun h=>by omega,fun _ a1 a2 a3=>absurd ⟨⟨a1,a2⟩,a3⟩ ho,fun h=>by omega⟩⟩,fun h=>h.1⟩,fun _=>⟨rfl,hq⟩⟩
  ·rw [if_neg h8,hg]
   by_cases ho:PK.gz p x.fFa x.fc a qq.fDa = true
   ·rw [if_pos ho]
    refine ⟨⟨fun h=>absurd h not_cov0,fun h=>?_⟩,fun h=>absurd rfl h⟩
    have:=h.2.s4 (by unfold Tk at ht; omega)
    rw [this] at ho; cases ho
   ·rw [if_neg ho]
    exact ⟨⟨fun h=>⟨h,⟨fun h=>by omega,fun h=>by omega,fun _=>by simpa using ho⟩⟩,fun h=>h.1⟩,fun _=>⟨rfl,hq⟩⟩
theorem sX {p:PK} {a pg:Int} {l:jM} (hn:1 <= p.s.fJa/\p.s.fJa <= 4):∀ (cs:List (Option KC)) (b:Bool) (qq:Pte),(∀ x,some x ∈ cs->x.fRa = true->Teller p.s.fJa x)->(b = true->fAa.has p.caps a qq.fDa = true/\1 <= qq.fBa/\qq.fBa <= 3) ->
  (((KK.fDb p a pg cs b qq).2 = true/\Cov (KK.fDb p a pg cs b qq).1 l)↔(b = true/\Cov qq l/\∀ x,some x ∈ cs->x.fRa = true->Stay p x.fFa x.fc a pg qq.fDa l.fBa))
 | [],b,qq,_,_=>by simp [KK.fDb]
 | none::cs,b,qq,hT,hb=>by
  rw [KK.fDb,sX hn cs b qq (fun x hx=>hT x (by simp [hx])) hb]
  simp
 | some x::cs,b,qq,hT,hb=>by
  rw [KK.fDb]
  by_cases hc:b = true/\x.fRa = true
  ·rw [if_pos hc]
   obtain ⟨b1,b2⟩:=hb hc.1
   obtain ⟨L1,L2⟩:=left_cov (l:=l) (pg:=pg) hn (hT x (by simp) hc.2) b1 b2
   have ih:=sX (l:=l) (pg:=pg) hn cs ((KK.left p x a pg qq).fBa != 0) (KK.left p x a pg qq) (fun y hy=>hT y (by simp [hy])) (fun h=>by
    have:=L2 (by simpa using h)
    rw [this.1]; exact ⟨b1,this.2⟩)
   rw [ih,L1]
   constructor
   ·rintro ⟨h1,h2,h3⟩
    have:=(L2 (by simpa using h1)).1
    refine ⟨hc.1,h2.1,fun y hy hty=>?_⟩
    rcases mem_cons.1 hy with hy | hy
    ·cases hy; exact h2.2
    ·rw [← this]; exact h3 y hy hty
   ·rintro ⟨_,h2,h3⟩
    have hx:=h3 x (by simp) hc.2
    have hcov:=L1.2 ⟨h2,hx⟩
    have hne:(KK.left p x a pg qq).fBa ≠ 0:=by have:=hcov.r; omega
    refine ⟨by simpa using hne,⟨h2,hx⟩,fun y hy hty=>?_⟩
    rw [(L2 hne).1]; exact h3 y (by simp [hy]) hty
  ·rw [if_neg hc,sX hn cs b qq (fun y hy=>hT y (by simp [hy])) hb]
   constructor
   ·rintro ⟨h1,h2,h3⟩
    refine ⟨h1,h2,fun y hy hty=>?_⟩
    rcases mem_cons.1 hy with hy | hy
    ·cases hy; exact absurd ⟨h1,hty⟩ hc
    ·exact h3 y hy hty
   ·rintro ⟨h1,h2,h3⟩
    exact ⟨h1,h2,fun y hy hty=>h3 y (by simp [hy]) hty⟩
def Tells (k:KK) (d:Nat) (x:KC):Prop:=k.calls[d]? = some (some x)/\x.fRa = true
def iL (k:KK) (c:Nat):Int:=k.fGa.2.getD c 0
def Hears (k:KK) (c d:Nat) (x:KC):Prop:=c = d\/x.fCb <= iL k c
def gM (k:KK) (c:Nat):Buf:=k.fMa.getD c ([],0)
structure LineOk (k:KK) (c:Nat) (l:jM):Prop where
 cov:Cov (PK.q k.p l.fCa l.fPa) l
 stay:∀ d x,Tells k d x->Hears k c d x->Stay k.p x.fFa x.fc l.fCa l.fPa (PK.q k.p l.fCa l.fPa).fDa l.fBa
structure fw (k:KK):Prop where
 ok:KK.Ok k
 F:PK.Fine k.p
 cw:∀ (d:Nat) x,k.calls[d]? = some (some x)->Cw x.fc
 told:∀ d x,Tells k d x->(Tk x.fc/\Word.check x.fc k.p.s.fJa = 0)/\1 <= x.fCb/\x.fCb <= k.fGa.1.length/\k.fGa.1[(x.fCb - 1).toNat]? = some (d:Int)
 mail:∀ c n:Nat,c < k.calls.length->n < k.fGa.1.length->k.fGa.1[n]? ≠ some (c:Int)->(n:Int) + 1 <= iL k c\/((n:Int) + 1) ∈ Mail.box k.fLa c
 hi:∀ c,iL k c <= k.fGa.1.length
 tok:∀ c,c < k.calls.length->Tlb.TOk (gM k c)
 line:∀ c,c < k.calls.length->∀ l ∈ Tlb.lines (gM k c),0 <= l.fCa->LineOk k c l
theorem fw.teller {k:KK} (I:fw k) {d:Nat} {x:KC} (h:Tells k d x):Teller k.p.s.fJa x:=⟨(I.told d x h).1.1,(I.told d x h).1.2,I.cw d x h.1⟩
theorem fw.en {k:KK} (I:fw k):1 <= k.p.s.fJa/\k.p.s.fJa <= 4:=PK.envs_of I.F.ok
theorem q_slot {p:PK} (F:PK.Fine p) {a pg:Int} (h:(PK.q p a pg).fBa ≠ 0):fAa.has p.caps a (PK.q p a pg).fDa = true/\1 <= (PK.q p a pg).fBa/\(PK.q p a pg).fBa <= 3:=by
 have:=F.by_ a pg h
 exact ⟨this.1,(dr this.2.2).1⟩
theorem seen_cov {k:KK} (hn:1 <= k.p.s.fJa/\k.p.s.fJa <= 4) (F:PK.Fine k.p) (hT:∀ x,some x ∈ k.calls->x.fRa = true->Teller k.p.s.fJa x) (a pg:Int) (l:jM) :
  ((KK.seen k a pg).2 = true/\Cov (KK.seen k a pg).1 l)↔(Cov (PK.q k.p a pg) l/\∀ x,some x ∈ k.calls->x.fRa = true->Stay k.p x.fFa x.fc a pg (PK.q k.p a pg).fDa l.fBa):=by
 unfold KK.seen
 rw [PK.pte_snd]
 show ((KK.fDb k.p a pg k.calls (decide ((PK.q k.p a pg).fBa ≠ 0)) (PK.q k.p a pg)).2 = true/\Cov (KK.fDb k.p a pg k.calls (decide ((PK.q k.p a pg).fBa ≠ 0)) (PK.q k.p a pg)).1 l)↔_
 rw [sX hn k.calls _ _ hT (fun h=>q_slot F (of_decide_eq_true h))]
 constructor
 ·rintro ⟨_,h⟩; exact h
 ·intro h
  exact ⟨decide_eq_true (by have:=h.1.r; omega),h⟩
theorem not_stale {k:KK} {l:jM} (h:KK.stale k l = false) (he:0 <= l.fCa):(KK.seen k l.fCa l.fPa).2 = true/\Cov (KK.seen k l.fCa l.fPa).1 l:=by
 unfold KK.stale at h
 rw [decide_eq_true he,Bool.true_and] at h
 simp only [Bool.or_eq_false_iff,Bool.not_eq_false',bne_eq_false_iff_eq] at h
 exact ⟨h.1.1,⟨h.1.2,h.2⟩⟩
end
section
open Go Mb
theorem calls_mem {k:KK} {x:KC} (h:some x ∈ k.calls):∃ d:Nat,k.calls[d]? = some (some x):=by
 obtain ⟨i,hi,e⟩:=List.getElem_of_mem h
 exact ⟨i,by rw [getElem?_eq_getElem hi,e]⟩
theorem fw.tell_all {k:KK} (I:fw k):∀ x,some x ∈ k.calls->x.fRa = true->Teller k.p.s.fJa x:=fun _ hx ht=>by
 obtain ⟨d,hd⟩:=calls_mem hx
 exact I.teller ⟨hd,ht⟩
theorem heard_new (s:fQ) (c:Nat):iL (KK.new s) c = 0:=by
 simp only [iL,KK.new,getD_eq_getElem?_getD,List.getElem?_replicate]
 split <;> rfl
theorem yg (s:fQ) (d:Nat) (x:KC):(KK.new s).calls[d]? ≠ some (some x):=by
 simp only [KK.new,List.getElem?_replicate]
 split <;> simp
theorem inv_new {s:fQ} (h:PK.sized s = true):fw (KK.new s):=by
 have hbuf:∀ c,c < (KK.new s).calls.length->gM (KK.new s) c = tlb0:=fun c hc=>by
  simp only [KK.new,List.length_replicate] at hc
  simp only [gM,KK.new,getD_eq_getElem?_getD,List.getElem?_replicate,if_pos hc,Option.getD_some]
 refine ⟨kok_new h,PK.fine_new h,fun d x hx=>absurd hx (yg s d x),fun d x hx=>absurd hx.1 (yg s d x),fun c n _ hn=>absurd hn (Nat.not_lt_zero _),fun c=>by rw [heard_new]; exact Int.natCast_nonneg _,fun c hc=>by rw [hbuf c hc]; exact Tlb.tok_new,fun c hc l hl he=>?_⟩
 rw [hbuf c hc] at hl
 obtain ⟨i,hi,rfl⟩:=(Tlb.mem_lines rfl).1 hl
 have key:∀ i,i < 8->(Tlb.ln tlb0.1 i).fl.fCa = -1:=by decide
 rw [key i hi] at he
 exact absurd he (by decide)
theorem fw.same {k k':KK} (I:fw k) (ok:KK.Ok k') (hp:k'.p = k.p) (h1:k'.fMa = k.fMa) (h2:k'.fLa = k.fLa) (h3:k'.fGa = k.fGa) (h4:k'.calls = k.calls):fw k':=by
 obtain ⟨p,tl,bx,ep,ca,ev,no⟩:=k
 obtain ⟨p',tl',bx',ep',ca',ev',no'⟩:=k'
 simp only at hp h1 h2 h3 h4
 subst hp; subst h1; subst h2; subst h3; subst h4
 exact ⟨ok,I.F,I.cw,I.told,I.mail,I.hi,I.tok,fun c hc l hl he=>⟨(I.line c hc l hl he).cov,(I.line c hc l hl he).stay⟩⟩
theorem fw.put {k k':KK} (I:fw k) (ok:KK.Ok k') {c:Nat} {o:Option KC} (ho:∀ x,o = some x->x.fRa = false/\Cw x.fc) (hp:k'.p = k.p) (h1:k'.fMa = k.fMa) (h2:k'.fLa = k.fLa) (h3:k'.fGa = k.fGa) (h4:k'.calls = k.calls.set c o):fw k':=by
 obtain ⟨p,tl,bx,ep,ca,ev,no⟩:=k
 obtain ⟨p',tl',bx',ep',ca',ev',no'⟩:=k'
 simp only at hp h1 h2 h3 h4
 subst hp; subst h1; subst h2; subst h3; subst h4
 have back:∀ (d:Nat) x,(ca.set c o)[d]? = some (some x)->(o = some x/\d = c)\/ca[d]? = some (some x):=by
  intro d x hx
  rw [getElem?_set] at hx
  split at hx
  ·rename_i e
   split at hx
   ·exact .inl ⟨by simpa using hx,e.symm⟩
   ·cases hx
  ·exact .inr hx
 have backT:∀ d x,Tells ⟨p',tl',bx',ep',ca.set c o,ev',no'⟩ d x->Tells ⟨p',tl',bx',ep',ca,ev,no⟩ d x:=by
  rintro d x ⟨hx,ht⟩
  rcases back d x hx with ⟨h,_⟩ | h
  ·rw [(ho x h).1] at ht; cases ht
  ·exact ⟨h,ht⟩
 refine ⟨ok,I.F,fun d x hx=>?_,fun d x hx=>I.told d x (backT d x hx),fun a n ha hn=>I.mail a n (by simpa using ha) hn,I.hi,fun a ha=>I.tok a (by simpa using ha),fun a ha l hl he=>?_⟩
 ·rcases back d x hx with ⟨h,_⟩ | h
  ·exact (ho x h).2
  ·exact I.cw d x h
 ·have L:=I.line a (by simpa using ha) l hl he
  exact ⟨L.cov,fun d x hx hh=>L.stay d x (backT d x hx) hh⟩
theorem fw.move {k:KK} (I:fw k) {p':PK} (okp:PK.Ok p') (M:PK.Mv k.p p') (h:∀ c,c < k.calls.length->∀ l ∈ Tlb.lines (gM k c),0 <= l.fCa->Cov (PK.q p' l.fCa l.fPa) l/\(PK.q p' l.fCa l.fPa).fDa = (PK.q k.p l.fCa l.fPa).fDa):fw { k with p:=p' }:=by
 refine ⟨kok_p I.ok okp M.s,M.fine,I.cw,fun d x hx=>by have:=I.told d x hx; exact ⟨⟨this.1.1,by show Word.check x.fc p'.s.fJa = 0; rw [M.s]; exact this.1.2⟩,this.2⟩,I.mail,I.hi,I.tok,fun c hc l hl he=>?_⟩
 have L:=I.line c hc l hl he
 obtain ⟨h1,h2⟩:=h c hc l hl he
 refine ⟨h1,fun d x hx hh=>?_⟩
 show Stay p' x.fFa x.fc l.fCa l.fPa (PK.q p' l.fCa l.fPa).fDa l.fBa
 rw [h2]
 refine (L.stay d x hx hh).keep (M.keep _ _ (by have:=L.cov.r; omega) (by have:=h1.r; omega)) ?_
 have e1:=I.F.ok.cl
 have e2:=M.fine.ok.cl
 rw [M.s] at e2
 omega
theorem fw.effect {k:KK} (I:fw k) {e:Int} {c:dp} (cw:Cw c) (h:Tk c->PK.off k.p e = false->Word.check c k.p.s.fJa = 0->∀ a,a < k.calls.length->∀ l ∈ Tlb.lines (gM k a),0 <= l.fCa->Stay k.p e c l.fCa l.fPa (PK.q k.p l.fCa l.fPa).fDa l.fBa):fw { k with p:=(PK.do_ k.p e c).2 }:=by
 obtain ⟨M,mono⟩:=PK.do_mv I.F (e:=e) cw
 refine I.move M.fine.ok M fun a ha l hl he=>?_
 have L:=I.line a ha l hl he
 have hne:(PK.q k.p l.fCa l.fPa).fBa ≠ 0:=by have:=L.cov.r; omega
 by_cases ht:Tk c
 ·by_cases hb:PK.off k.p e = true\/Word.check c k.p.s.fJa ≠ 0
  ·rw [(PK.do_bad hb).1]; exact ⟨L.cov,rfl⟩
  ·simp only [not_or,Bool.not_eq_true,Decidable.not_not] at hb
   rw [PK.do_q I.F cw hb.1 hb.2 ht]
   exact aft_cov ht L.cov (h ht hb.1 hb.2 a ha l hl he)
 ·rw [mono ht _ _ hne]; exact ⟨L.cov,rfl⟩
theorem fw.touch {k:KK} (I:fw k) (f:Int) (c:dp):fw { k with p:=(PK.touch k.p f c).2 }:=by
 obtain ⟨M,mono⟩:=PK.mv_touch I.F f c
 refine I.move M.fine.ok M fun a ha l hl he=>?_
 have L:=I.line a ha l hl he
 rw [mono _ _ (by have:=L.cov.r; omega)]
 exact ⟨L.cov,rfl⟩
theorem fw.buf {k:KK} (I:fw k) {c:Nat} (hc:c < k.calls.length) {b:Buf} (hb:Tlb.TOk b) (h:∀ l ∈ Tlb.lines b,0 <= l.fCa->LineOk k c l):fw { k with fMa:=k.fMa.set c b }:=by
 have hlen:k.fMa.length = k.calls.length:=by have:=I.ok.tl; have:=I.ok.cl; omega
 have hbuf:∀ a,gM { k with fMa:=k.fMa.set c b } a = if a = c then b else gM k a:=by
  intro a
  simp only [gM,getD_eq_getElem?_getD,getElem?_set]
  by_cases e:c = a
  ·subst e; simp [hlen,hc]
  ·rw [if_neg e,if_neg (fun h=>e h.symm)]
 refine ⟨kok_tlbs I.ok _ _,I.F,I.cw,I.told,I.mail,I.hi,fun a ha=>?_,fun a ha l hl he=>?_⟩
 ·rw [hbuf]; split
  ·exact hb
  ·exact I.tok a ha
 ·rw [hbuf] at hl
  by_cases e:a = c
  ·rw [if_pos e] at hl
   subst e
   have L:=h l hl he
   exact ⟨L.cov,L.stay⟩
  ·rw [if_neg e] at hl
   have L:=I.line a ha l hl he
   exact ⟨L.cov,L.stay⟩
theorem clean_lines {k:KK} (hn:1 <= k.p.s.fJa/\k.p.s.fJa <= 4) (F:PK.Fine k.p) (hT:∀ x,some x ∈ k.calls->x.fRa = true->Teller k.p.s.fJa x) {b:Buf} (hb:Tlb.TOk b):Tlb.TOk (KK.cleans k (Tlb.lines b) b)/\∀ l ∈ Tlb.lines (KK.cleans k (Tlb.lines b) b),0 <= l.fCa->l ∈ Tlb.lines b/\Cov (PK.q k.p l.fCa l.fPa) l/\∀ x,some x ∈ k.calls->x.fRa = true->Stay k.p x.fFa x.fc l.fCa l.fPa (PK.q k.p l.fCa l.fPa).fDa l.fBa:=by
 obtain ⟨h1,h2⟩:=cleans_all (k:=k) hb
 refine ⟨h1,fun l hl he=>?_⟩
 obtain ⟨a,s⟩:=h2 l hl he
 exact ⟨a,(seen_cov hn F hT _ _ _).1 (not_stale s he)⟩
theorem tells_mem {k:KK} {d:Nat} {x:KC} (h:Tells k d x):some x ∈ k.calls:=List.mem_of_getElem? h.1
theorem lN {k:KK} {c:Int} (h:KK.is k c = true):∃ n:Nat,c = n/\n < k.calls.length:=by
 unfold KK.is at h
 have:=of_decide_eq_true h
 exact ⟨c.toNat,by omega,by omega⟩
theorem xf (k:KK) (n:Nat):KK.buf k n = gM k n:=by simp [KK.buf,gM]
theorem qW {k:KK} {n:Nat} {x:KC} (h:KK.call k n = some x):k.calls[n]? = some (some x):=by
 unfold KK.call at h
 rw [toNat_natCast,getD_eq_getElem?_getD] at h
 cases hc:k.calls[n]? with
 | none=>rw [hc] at h; cases h
 | some o=>rw [hc] at h; simp at h; rw [h]
end
section
open Go Mb
theorem empty_get (pg:Int):Table.get (replicate 8 dn) pg = (dn,false):=by
 apply Table.get_no
 rintro ⟨h1,h2⟩
 obtain ⟨n,rfl,hn⟩:=nD h1
 have key:∀ n,n < 8->((replicate 8 dn).getD n dn).fBa = 0:=by decide
 apply h2
 unfold Table.at_
 rw [toNat_natCast]
 exact key n hn
theorem tabFor_get (k:KK) (e pg:Int) (h:(Table.get (KK.fGb k e pg) pg).1.fBa ≠ 0):(KK.seen k e pg).2 = true/\(Table.get (KK.fGb k e pg) pg).1 = (KK.seen k e pg).1:=by
 unfold KK.fGb at h ⊢
 by_cases hs:(KK.seen k e pg).2 = true
 ·rw [if_pos hs] at h ⊢
  refine ⟨hs,?_⟩
  by_cases hz:(Table.insert (replicate 8 dn) pg (KK.seen k e pg).1).1 = 0
  ·rw [Table.get_insert (by simp) _ _ hz,if_pos rfl]
  ·rw [Table.insert_same _ _ hz,empty_get] at h
   exact absurd rfl h
 ·rw [if_neg hs,empty_get] at h
  exact absurd rfl h
theorem walk_lines {b:Buf} (hb:Tlb.TOk b) (t:List Pte) (e pg kind:Int):Tlb.TOk (User.walk b t e pg kind).2/\∀ l ∈ Tlb.lines (User.walk b t e pg kind).2,0 <= l.fCa->l ∈ Tlb.lines b\/(l = ⟨e,pg,(Table.get t pg).1.fEa,(Table.get t pg).1.fBa⟩/\1 <= (Table.get t pg).1.fBa/\(Table.get t pg).1.fBa <= 3):=by
 unfold User.walk
 split
 ·exact ⟨hb,fun l hl _=>.inl hl⟩
 ·split
  ·exact ⟨Tlb.tok_flush hb _ _,fun l hl he=>.inl (Tlb.lines_flush hb hl he).1⟩
  ·obtain ⟨h1,h2⟩:=Tlb.tok_fill hb ⟨e,pg,(Table.get t pg).1.fEa,(Table.get t pg).1.fBa⟩
   refine ⟨h1,fun l hl he=>?_⟩
   rcases h2 l hl he with ⟨rfl,hn⟩ | h
   ·refine .inr ⟨rfl,?_⟩
    unfold Tlb.bad at hn
    have:ci (Table.get t pg).1.fBa = true:=by
     cases hm:ci (Table.get t pg).1.fBa with
     | true=>rfl
     | false=>exact absurd (.inr (.inr (.inr (.inr (.inr (.inr hm)))))) hn
    exact vH.1 this
   ·exact .inl h
theorem fw.access {k:KK} (I:fw k) {c:Nat} (hc:c < k.calls.length) (x:KC):fw (KK.access k c x).2/\(KK.access k c x).2.calls = k.calls/\(KK.access k c x).2.fGa = k.fGa:=by
 unfold KK.access
 split
 ·exact ⟨I,rfl,rfl⟩
 ·have hw:=walk_lines (I.tok c hc) (KK.fGb k x.fFa (i64.wrap x.fc.e1)) x.fFa (i64.wrap x.fc.e1) (i64.wrap x.fc.e0)
  have I1:fw { k with fMa:=k.fMa.set c (KK.fZa k c x).2 }:=by
   unfold KK.fZa
   rw [xf]
   refine I.buf hc hw.1 fun l hl he=>?_
   rcases hw.2 l hl he with h | ⟨rfl,h1,h2⟩
   ·exact I.line c hc l h he
   ·obtain ⟨s1,s2⟩:=tabFor_get k x.fFa (i64.wrap x.fc.e1) (by omega)
    have hcov:Cov (KK.seen k x.fFa (i64.wrap x.fc.e1)).1 (⟨x.fFa,i64.wrap x.fc.e1,(Table.get (KK.fGb k x.fFa (i64.wrap x.fc.e1)) (i64.wrap x.fc.e1)).1.fEa,(Table.get (KK.fGb k x.fFa (i64.wrap x.fc.e1)) (i64.wrap x.fc.e1)).1.fBa⟩:jM):=by
     refine ⟨?_,?_⟩
     ·show (KK.seen k x.fFa (i64.wrap x.fc.e1)).1.fEa = (Table.get (KK.fGb k x.fFa (i64.wrap x.fc.e1)) (i64.wrap x.fc.e1)).1.fEa
      rw [s2]
     ·show aP (Table.get (KK.fGb k x.fFa (i64.wrap x.fc.e1)) (i64.wrap x.fc.e1)).1.fBa (KK.seen k x.fFa (i64.wrap x.fc.e1)).1.fBa = true
      rw [← s2]; exact within_refl ⟨h1,h2⟩
    obtain ⟨a1,a2⟩:=(seen_cov I.en I.F I.tell_all _ _ _).1 ⟨s1,hcov⟩
    exact ⟨a1,fun d y hy _=>a2 y (tells_mem hy) hy.2⟩
  split
  ·exact ⟨I1,rfl,rfl⟩
  ·exact ⟨I1.touch _ _,rfl,rfl⟩
theorem ends_inv {k:KK} (I:fw k) {c:Nat} (x:KC) (a:fe) (l:jM):fw (KK.ends k c x a l) :=
 I.put (kok_ends I.ok _ _ _ _) (c:=c) (o:=none) (fun _ h=>by cases h) rfl rfl rfl rfl (by simp [KK.ends])
theorem sends_box {bs:Mail.S} {f:Nat} (hf:f < bs.length) (e:Int):∀ n,n <= bs.length->∀ t:Nat,t < bs.length->Mail.box (Mail.sends bs f e n).2 t = if t < n/\t ≠ f then Mail.box bs t++[e] else Mail.box bs t
 | 0,_,t,_=>by rw [if_neg (by omega)]; rfl
 | n + 1,hn,t,ht=>by
  have ih:=sends_box hf e n (by omega) t ht
  have hlen:=Mail.sends_len bs f e n
  have hs:(Mail.sends bs f e (n + 1)).2 = (Mail.send (Mail.sends bs f e n).2 f n e).2:=by rw [Mail.sends]; split <;> rfl
  rw [hs]
  unfold Mail.send
  by_cases hnf:n = f
  ·have hc:¬ (Mail.has (Mail.sends bs f e n).2 f = true/\Mail.has (Mail.sends bs f e n).2 n = true/\(f:Int) ≠ n):=fun h=>h.2.2 (by rw [hnf])
   rw [if_neg hc,ih]
   by_cases h1:t < n/\t ≠ f
   ·rw [if_pos h1,if_pos ⟨by omega,h1.2⟩]
   ·rw [if_neg h1,if_neg (by omega)]
  ·have hc:Mail.has (Mail.sends bs f e n).2 f = true/\Mail.has (Mail.sends bs f e n).2 n = true/\(f:Int) ≠ n:=by
    unfold Mail.has
    rw [hlen]
    exact ⟨decide_eq_true (by omega),decide_eq_true (by omega),by omega⟩
   rw [if_pos hc]
   have hbox:∀ v,Mail.box ((Mail.sends bs f e n).2.set (n:Int).toNat v) t = if t = n then v else Mail.box (Mail.sends bs f e n).2 t:=by
    intro v
    simp only [Mail.box,toNat_natCast,getD_eq_getElem?_getD,getElem?_set]
    by_cases h1:n = t
    ·subst h1; simp [hlen,ht]
    ·rw [if_neg h1,if_neg (fun h=>h1 h.symm)]
   rw [hbox]
   by_cases h1:t = n
   ·subst h1
    rw [if_pos rfl,ih,if_neg (by omega),if_pos ⟨by omega,hnf⟩]
   ·rw [if_neg h1,ih]
    by_cases h2:t < n/\t ≠ f
    ·rw [if_pos h2,if_pos ⟨by omega,h2.2⟩]
    ·rw [if_neg h2,if_neg (by omega)]
theorem takes_teller {p:PK} {x:KC} (h:KK.takes p x = true) (cw:Cw x.fc):Teller p.s.fJa x:=by
 unfold KK.takes at h
 split at h
 ·cases h
 ·rename_i hc
  simp only [not_or] at hc
  exact ⟨by unfold Tk; omega,by simpa using hc.1,cw⟩
theorem fw.tell {k:KK} (I:fw k) (hn:(k.fGa.1.length:Int) + 1 <= k.now) {c:Nat} {x:KC} (hx:KK.call k c = some x) (hi:KK.is k c = true) (ht:KK.takes k.p x = true):fw (KK.send (KK.clean (KK.tell k c x) c) c x):=by
 have hc:c < k.calls.length:=by obtain ⟨n,e,h⟩:=lN hi; omega
 have hcx:=qW hx
 have T:=takes_teller ht (I.cw c x hcx)
 have okt:KK.Ok (KK.send (KK.clean (KK.tell k c x) c) c x):=by
  refine kok_send (kok_clean (kok_call I.ok c hx (y:={ x with fRa:=true }) rfl rfl) c) hn ?_ ?_
  ·exact call_set_same hx
  ·unfold KK.is at hi ⊢
   show decide ((0:Int) <= c/\(c:Int) < ((k.calls.set (c:Int).toNat _).length:Int)) = true
   rw [length_set]; exact hi
 have htT:∀ y,some y ∈ (KK.tell k c x).calls->y.fRa = true->Teller k.p.s.fJa y:=by
  intro y hy hty
  rcases List.mem_or_eq_of_mem_set hy with h | h
  ·exact I.tell_all y h hty
  ·cases h; exact ⟨T.t,T.k,T.w⟩
 have hcl:=clean_lines (k:=KK.tell k c x) I.en I.F htT (b:=gM k c) (I.tok c hc)
 have hlen:k.fMa.length = k.calls.length:=by have:=I.ok.tl; have:=I.ok.cl; omega
 have hel:k.fGa.2.length = k.calls.length:=by have:=I.ok.el; have:=I.ok.cl; omega
 have hbl:k.fLa.length = k.calls.length:=by have:=I.ok.bl; have:=I.ok.cl; omega
 have he:fNa.begin_ k.fGa c = (((k.fGa.1.length:Int) + 1,true),(k.fGa.1++[(c:Int)],k.fGa.2)):=by
  have:fNa.is k.fGa c = true:=by unfold fNa.is; exact decide_eq_true (by omega)
  exact if_pos this
 have eG:(k.calls.set c (some { x with fRa:=true })).set c (some { x with fRa:=true,fCb:=(k.fGa.1.length:Int) + 1 }) = k.calls.set c (some { x with fRa:=true,fCb:=(k.fGa.1.length:Int) + 1 }):=List.set_set ..
 have ek:KK.send (KK.clean (KK.tell k c x) c) c x = { k with fMa:=k.fMa.set c (KK.cleans (KK.tell k c x) (Tlb.lines (gM k c)) (gM k c)),fGa:=(k.fGa.1++[(c:Int)],k.fGa.2),calls:=k.calls.set c (some { x with fRa:=true,fCb:=(k.fGa.1.length:Int) + 1 }),fLa:=(Mail.sends k.fLa c ((k.fGa.1.length:Int) + 1) k.fLa.length).2 }:=by
  unfold KK.send
  have e1:(KK.clean (KK.tell k c x) c).fGa = k.fGa:=rfl
  rw [e1,he]
  unfold KK.clean
  rw [xf]
  simp only [KK.tell,toNat_natCast,eG]
  rfl
 rw [ek] at okt ⊢
 have bufs:∀ a,gM { k with fMa:=k.fMa.set c (KK.cleans (KK.tell k c x) (Tlb.lines (gM k c)) (gM k c)),fGa:=(k.fGa.1++[(c:Int)],k.fGa.2),calls:=k.calls.set c (some { x with fRa:=true,fCb:=(k.fGa.1.length:Int) + 1 }),fLa:=(Mail.sends k.fLa c ((k.fGa.1.length:Int) + 1) k.fLa.length).2 } a = if a = c then KK.cleans (KK.tell k c x) (Tlb.lines (gM k c)) (gM k c) else gM k a:=by
  intro a
  simp only [gM,getD_eq_getElem?_getD,getElem?_set]
  by_cases e:c = a
  ·subst e; simp [hlen,hc]
  ·rw [if_neg e,if_neg (fun h=>e h.symm)]
 have back:∀ (d:Nat) y,(k.calls.set c (some { x with fRa:=true,fCb:=(k.fGa.1.length:Int) + 1 }))[d]? = some (some y)->(y = { x with fRa:=true,fCb:=(k.fGa.1.length:Int) + 1 }/\d = c)\/(d ≠ c/\k.calls[d]? = some (some y)):=by
  intro d y hy
  rw [getElem?_set] at hy
  split at hy
  ·rename_i e
   exact .inl ⟨by simpa using hy.symm,e.symm⟩
  ·rename_i e
   exact .inr ⟨fun h=>e h.symm,hy⟩
 refine ⟨okt,I.F,fun d y hy=>?_,fun d y hy=>?_,fun a n ha hn hne=>?_,fun a=>?_,fun a ha=>?_,fun a ha l hl hle=>?_⟩
 ·rcases back d y hy with ⟨rfl,_⟩ | ⟨_,h⟩
  ·exact T.w
  ·exact I.cw d y h
 ·rcases back d y hy.1 with ⟨rfl,rfl⟩ | ⟨_,h⟩
  ·refine ⟨⟨T.t,T.k⟩,by show (1:Int) <= (k.fGa.1.length:Int) + 1; omega,by simp,?_⟩
   show (k.fGa.1++[(d:Int)])[((k.fGa.1.length:Int) + 1 - 1).toNat]? = some (d:Int)
   rw [show ((k.fGa.1.length:Int) + 1 - 1).toNat = k.fGa.1.length from by omega]
   simp
  ·have:=I.told d y ⟨h,hy.2⟩
   refine ⟨this.1,this.2.1,by simp; omega,?_⟩
   show (k.fGa.1++[(c:Int)])[(y.fCb - 1).toNat]? = some (d:Int)
   rw [List.getElem?_append_left (by omega)]
   exact this.2.2.2
 ·have ha':a < k.calls.length:=by simpa using ha
  have hbx:=sends_box (bs:=k.fLa) (f:=c) (by omega) ((k.fGa.1.length:Int) + 1) k.fLa.length (le_refl _) a (by omega)
  show (n:Int) + 1 <= iL k a\/((n:Int) + 1) ∈ Mail.box (Mail.sends k.fLa c ((k.fGa.1.length:Int) + 1) k.fLa.length).2 a
  rw [hbx]
  simp only [length_append,length_singleton] at hn
  by_cases hnl:n < k.fGa.1.length
  ·rw [List.getElem?_append_left hnl] at hne
   rcases I.mail a n ha' hnl hne with h | h
   ·exact .inl h
   ·refine .inr ?_
    split
    ·exact List.mem_append_left _ h
    ·exact h
  ·have hn2:n = k.fGa.1.length:=by omega
   subst hn2
   have hac:a ≠ c:=by
    rintro rfl
    apply hne
    show (k.fGa.1++[(a:Int)])[k.fGa.1.length]? = _
    simp
   rw [if_pos ⟨by omega,hac⟩]
   exact .inr (by simp)
 ·have:=I.hi a
  show iL k a <= _
  simp; omega
 ·rw [bufs]; split
  ·exact hcl.1
  ·exact I.tok a (by simpa using ha)
 ·have ha':a < k.calls.length:=by simpa using ha
  rw [bufs] at hl
  by_cases e:a = c
  ·rw [if_pos e] at hl
   obtain ⟨_,c1,c2⟩:=hcl.2 l hl hle
   refine ⟨c1,fun d y hy _=>?_⟩
   rcases back d y hy.1 with ⟨rfl,_⟩ | ⟨hd,h⟩
   ·exact c2 { x with fRa:=true } (by simp only [KK.tell,toNat_natCast]; exact List.mem_set hc _) rfl
   ·refine c2 y ?_ hy.2
    simp only [KK.tell,toNat_natCast]
    exact List.mem_of_getElem? (i:=d) (by rw [getElem?_set,if_neg (fun h=>hd h.symm)]; exact h)
  ·rw [if_neg e] at hl
   have L:=I.line a ha' l hl hle
   refine ⟨L.cov,fun d y hy hh=>?_⟩
   rcases back d y hy.1 with ⟨rfl,rfl⟩ | ⟨_,h⟩
   ·exfalso
    rcases hh with hh | hh
    ·exact e hh
    ·have:=I.hi a
     have hh':(k.fGa.1.length:Int) + 1 <= iL k a:=hh
     omega
   ·exact L.stay d y ⟨h,hy.2⟩ hh
end
section
open Go Mb
theorem waitsFrom_nil {n o:Int}:∀ {l:List Int} {i:Int},fNa.fIb n o l i = []->∀ (j:Nat) (a:Int),l[j]? = some a->o ≠ i + j->n <= a
 | [],_,_,j,a,h,_=>by simp at h
 | b::l,i,h,j,a,hj,ho=>by
  rw [fNa.fIb] at h
  split at h
  ·cases h
  ·rename_i hc
   cases j with
   | zero =>
    simp at hj ho
    subst hj
    have:¬ b < n:=fun hlt=>hc ⟨hlt,ho⟩
    omega
   | succ j=>exact waitsFrom_nil h j a (by simpa using hj) (by omega)
theorem done_heard {k:KK} {n:Int} (h:fNa.done k.fGa n = true) {c d:Nat} (hc:c < k.fGa.2.length) (ho:k.fGa.1[(n - 1).toNat]? = some (d:Int)) (hcd:c ≠ d):n <= iL k c:=by
 unfold fNa.done at h
 simp only [and_eq_true,decide_eq_true_eq] at h
 obtain ⟨⟨h1,h2⟩,h3⟩:=h
 unfold fNa.waits at h3
 rw [if_neg (by omega)] at h3
 have hov:k.fGa.1.getD (n - 1).toNat 0 = d:=by rw [getD_eq_getElem?_getD,ho]; rfl
 rw [hov] at h3
 have:=waitsFrom_nil h3 c _ (getElem?_eq_getElem hc) (by omega)
 unfold iL
 rw [getD_eq_getElem?_getD,getElem?_eq_getElem hc]
 exact this
theorem eqb_pte {p q:Pte} (h:an.eqb p q = true):p = q:=by
 cases p; cases q
 simp [an.eqb] at h
 simp [h]
theorem no_takes_stay {k:KK} (I:fw k) {x:KC} (cw:Cw x.fc) (h:KK.takes k.p x = false) (ht:Tk x.fc) (hk:Word.check x.fc k.p.s.fJa = 0) {a pg:Int} {l:jM} (hc:Cov (PK.q k.p a pg) l):Stay k.p x.fFa x.fc a pg (PK.q k.p a pg).fDa l.fBa:=by
 have hne:(PK.q k.p a pg).fBa ≠ 0:=by have:=hc.r; omega
 obtain ⟨ho,hg,hq⟩:=PK.q_on hne
 obtain ⟨b1,b2⟩:=q_slot I.F hne
 unfold KK.takes at h
 rw [if_neg (by rw [hk]; unfold Tk at ht; simp; omega)] at h
 have h1:=PK.off_iff.1 ho
 have hpg:bB pg = true:=by
  by_cases hh:bB pg = true/\(Table.at_ (PK.tab k.p a) pg).fBa ≠ 0
  ·exact hh.1
  ·rw [Table.get_no hh] at hg; cases hg
 obtain ⟨n,rfl,hn⟩:=nD hpg
 obtain ⟨m,rfl⟩:=Int.eq_ofNat_of_zero_le h1.1
 have hhit:KK.hits k.p x m n = false:=by
  have h2:=List.any_eq_false.1 h m (List.mem_range.2 (by omega))
  simp only [Bool.not_eq_true] at h2
  have h3:=List.any_eq_false.1 h2 n (List.mem_range.2 hn)
  simpa using h3
 unfold KK.hits at hhit
 rw [PK.pte_snd,decide_eq_true hne,Bool.true_and] at hhit
 have he:an.eqb (KK.left k.p x m n (PK.q k.p m n)) (PK.q k.p m n) = true:=by simpa [PK.q] using hhit
 have heq:KK.left k.p x m n (PK.q k.p m n) = PK.q k.p m n:=by
  exact eqb_pte he
 have L:=(left_cov (l:=l) (pg:=(n:Int)) I.en ⟨ht,hk,cw⟩ b1 b2).1
 exact (L.1 (heq.symm ▸ hc)).2
theorem fw.work {k:KK} (I:fw k) (hn:(k.fGa.1.length:Int) + 1 <= k.now) {c:Nat} {x:KC} (hx:KK.call k c = some x) (hi:KK.is k c = true):fw (KK.work k c x):=by
 have hc:c < k.calls.length:=by obtain ⟨n,e,h⟩:=lN hi; omega
 have hcx:=qW hx
 have cw:=I.cw c x hcx
 unfold KK.work
 split
 ·exact ends_inv (I.access hc x).1 _ _ _
 ·split
  ·rename_i h
   exact I.tell hn hx hi h.2
  ·rename_i hnt
   split
   ·exact I
   ·rename_i hnd
    have E:fw { k with p:=(PK.do_ k.p x.fFa x.fc).2 }:=by
     refine I.effect cw fun ht ho hk a ha l hl he=>?_
     have L:=I.line a ha l hl he
     cases hto:x.fRa with
     | false =>
      have htk:KK.takes k.p x = false:=by
       cases h:KK.takes k.p x with
       | false=>rfl
       | true=>exact absurd ⟨hto,h⟩ hnt
      exact no_takes_stay I cw htk ht hk L.cov
     | true =>
      have hd:fNa.done k.fGa x.fCb = true:=by
       cases h:fNa.done k.fGa x.fCb with
       | true=>rfl
       | false=>exact absurd ⟨hto,h⟩ hnd
      have htell:Tells k c x:=⟨hcx,hto⟩
      refine L.stay c x htell ?_
      by_cases e:a = c
      ·exact .inl e
      ·have hel:k.fGa.2.length = k.calls.length:=by have:=I.ok.el; have:=I.ok.cl; omega
       exact .inr (done_heard hd (by omega) (I.told c x htell).2.2.2 e)
    split
    ·exact ends_inv E _ _ _
    ·exact E
theorem fw.tick {k:KK} (I:fw k) (hn:k.now < 2 ^ 40):fw (KK.tick k):=I.same (kok_tick I.ok hn) rfl rfl rfl rfl rfl
theorem fw.step {k:KK} (I:fw k) (hn:k.now < 2 ^ 40) (c:Int):fw (KK.step k c).2:=by
 unfold KK.step
 split
 ·exact I
 ·rename_i hb
  obtain ⟨hi,x,hx⟩:=busy_is (by simpa using hb)
  rw [hx]
  obtain ⟨n,rfl,_⟩:=lN hi
  have h3:=I.ok.epn
  exact (I.tick hn).work (by show _ <= i64.wrap (k.now + 1); rw [wrapN I.ok.n0 hn]; simp only [KK.tick]; omega) hx hi
theorem fw.begin {k:KK} (I:fw k) (hn:k.now < 2 ^ 40) (core env:Int) {c:dp} (cw:Cw c):fw (KK.begin_ k core env c).2:=by
 have okb:=kok_begin I.ok hn core env c
 unfold KK.begin_ at okb ⊢
 split
 ·exact I
 ·rename_i h
  rw [if_neg h] at okb
  exact I.put okb (c:=core.toNat) (o:=some ⟨k.events.length,env,c,false,0⟩) (fun x hx=>by cases hx; exact ⟨rfl,cw⟩) rfl rfl rfl rfl rfl
theorem fw.evict {k:KK} (I:fw k) (hn:k.now < 2 ^ 40) (c s w:Int):fw (KK.evict k c s w).2:=by
 unfold KK.evict
 split
 ·exact I
 ·rename_i h
  obtain ⟨n,rfl,hlt⟩:=lN (by simpa using h)
  split
  ·exact I
  ·have It:=I.tick hn
   rw [xf]
   have he:=Tlb.evict_in (I.tok n hlt) s w
   exact It.buf (c:=n) hlt he.1 fun l hl h0=>It.line n hlt l (he.2 l hl h0) h0
theorem heard_set {k:KK} {e1 e2:List Int} {c:Nat} (hc:c < e2.length) (v:Int) (a:Nat) (h:k.fGa = (e1,e2.set c v)):iL k a = if a = c then v else e2.getD a 0:=by
 unfold iL
 rw [h]
 simp only [getD_eq_getElem?_getD,getElem?_set]
 by_cases e:c = a
 ·subst e; simp [hc]
 ·rw [if_neg e,if_neg (fun h=>e h.symm)]
theorem fw.post {k:KK} (I:fw k) (hn:k.now < 2 ^ 40) (c:Int):fw (KK.post k c).2:=by
 have okp:=kok_post I.ok hn c
 unfold KK.post at okp ⊢
 split
 ·exact I
 ·rename_i h
  obtain ⟨c,rfl,hlt⟩:=lN (by simpa using h)
  split
  ·exact I
  ·rename_i ht
   rw [if_neg h,if_neg ht] at okp
   have hel:k.fGa.2.length = k.calls.length:=by have:=I.ok.el; have:=I.ok.cl; omega
   have hbl:k.fLa.length = k.calls.length:=by have:=I.ok.bl; have:=I.ok.cl; omega
   have hlen:k.fMa.length = k.calls.length:=by have:=I.ok.tl; have:=I.ok.cl; omega
   have htk:Mail.take k.fLa c = (((Mail.box k.fLa c).getD 0 0,true),k.fLa.set c ((Mail.box k.fLa c).drop 1))/\0 < (Mail.box k.fLa c).length:=by
    unfold Mail.take at ht ⊢
    by_cases hw:Mail.waits k.fLa c = 0
    ·rw [if_pos hw] at ht; exact absurd rfl ht
    ·rw [if_neg hw]
     refine ⟨by simp,?_⟩
     unfold Mail.waits at hw
     split at hw
     ·omega
     ·exact absurd rfl hw
   obtain ⟨htk,hpos⟩:=htk
   have hbx:=box_of I.ok.bx (c:Int)
   have hmem:(Mail.box k.fLa c).getD 0 0 ∈ Mail.box k.fLa c:=by
    rw [getD_eq_getElem?_getD,getElem?_eq_getElem hpos]
    exact getElem_mem hpos
   have hlo:=hbx.lo _ hmem
   have hhi:=hbx.hi _ hmem
   have hack:fNa.ack k.fGa c ((Mail.box k.fLa c).getD 0 0) = (true,(k.fGa.1,k.fGa.2.set c (mx (iL k c) ((Mail.box k.fLa c).getD 0 0)))):=by
    unfold fNa.ack
    rw [if_pos ⟨by unfold fNa.is; exact decide_eq_true (by omega),by omega,by unfold fNa.now; omega⟩]
    simp [iL]
   rw [htk] at okp ⊢
   have hcl:=clean_lines (k:=k) I.en I.F I.tell_all (b:=gM k c) (I.tok c hlt)
   have hsame:∀ (L:List jM) (b:Buf),KK.cleans { KK.tick k with fLa:=k.fLa.set c ((Mail.box k.fLa c).drop 1) } L b = KK.cleans k L b:=by
    intro L
    induction L with
    | nil=>intro b; rfl
    | cons d L ih =>
     intro b
     have hst:KK.stale { KK.tick k with fLa:=k.fLa.set c ((Mail.box k.fLa c).drop 1) } d = KK.stale k d:=rfl
     rw [KK.cleans,KK.cleans,hst,ih,ih]
   have ek:({ KK.clean { KK.tick k with fLa:=k.fLa.set c ((Mail.box k.fLa c).drop 1) } c with fGa:=(fNa.ack k.fGa c ((Mail.box k.fLa c).getD 0 0)).2 }:KK) =
     { KK.tick k with fMa:=k.fMa.set c (KK.cleans k (Tlb.lines (gM k c)) (gM k c)),fLa:=k.fLa.set c ((Mail.box k.fLa c).drop 1),fGa:=(k.fGa.1,k.fGa.2.set c (mx (iL k c) ((Mail.box k.fLa c).getD 0 0))) }:=by
    rw [hack]
    unfold KK.clean
    rw [hsame]
    have:KK.buf { KK.tick k with fLa:=k.fLa.set c ((Mail.box k.fLa c).drop 1) } c = gM k c:=xf k c
    rw [this]
    simp only [toNat_natCast]
    rfl
   show fw _
   have okp':KK.Ok ({ KK.clean { KK.tick k with fLa:=k.fLa.set c ((Mail.box k.fLa c).drop 1) } c with fGa:=(fNa.ack k.fGa c ((Mail.box k.fLa c).getD 0 0)).2 }:KK):=okp
   show fw ({ KK.clean { KK.tick k with fLa:=k.fLa.set c ((Mail.box k.fLa c).drop 1) } c with fGa:=(fNa.ack k.fGa c ((Mail.box k.fLa c).getD 0 0)).2 }:KK)
   rw [ek] at okp' ⊢
   have hh:∀ a,iL { KK.tick k with fMa:=k.fMa.set c (KK.cleans k (Tlb.lines (gM k c)) (gM k c)),fLa:=k.fLa.set c ((Mail.box k.fLa c).drop 1),fGa:=(k.fGa.1,k.fGa.2.set c (mx (iL k c) ((Mail.box k.fLa c).getD 0 0))) } a = if a = c then mx (iL k c) ((Mail.box k.fLa c).getD 0 0) else iL k a:=fun a=>heard_set (c:=c) (by omega) _ a rfl
   have hbuf:∀ a,gM { KK.tick k with fMa:=k.fMa.set c (KK.cleans k (Tlb.lines (gM k c)) (gM k c)),fLa:=k.fLa.set c ((Mail.box k.fLa c).drop 1),fGa:=(k.fGa.1,k.fGa.2.set c (mx (iL k c) ((Mail.box k.fLa c).getD 0 0))) } a = if a = c then KK.cleans k (Tlb.lines (gM k c)) (gM k c) else gM k a:=by
    intro a
    simp only [gM,KK.tick,getD_eq_getElem?_getD,getElem?_set]
    by_cases e:c = a
    ·subst e; simp [hlen,hlt]
    ·rw [if_neg e,if_neg (fun h=>e h.symm)]
   have hmx:iL k c <= mx (iL k c) ((Mail.box k.fLa c).getD 0 0)/\(Mail.box k.fLa c).getD 0 0 <= mx (iL k c) ((Mail.box k.fLa c).getD 0 0)/\(mx (iL k c) ((Mail.box k.fLa c).getD 0 0) = iL k c\/mx (iL k c) ((Mail.box k.fLa c).getD 0 0) = (Mail.box k.fLa c).getD 0 0):=by unfold mx; split <;> omega
   refine ⟨okp',I.F,I.cw,I.told,fun a n ha hnn hne=>?_,fun a=>?_,fun a ha=>?_,fun a ha l hl he=>?_⟩
   ·rw [hh]
    have hbox:Mail.box (k.fLa.set c ((Mail.box k.fLa c).drop 1)) a = if a = c then (Mail.box k.fLa c).drop 1 else Mail.box k.fLa a:=by
     simp only [Mail.box,toNat_natCast,getD_eq_getElem?_getD,getElem?_set]
     by_cases e:c = a
     ·subst e; simp [hbl,hlt]
     ·rw [if_neg e,if_neg (fun h=>e h.symm)]
    show _\/_ ∈ Mail.box (k.fLa.set c ((Mail.box k.fLa c).drop 1)) a
    rw [hbox]
    have old:=I.mail a n ha hnn hne
    by_cases e:a = c
    ·subst e
     rw [if_pos rfl,if_pos rfl]
     rcases old with h1 | h1
     ·exact .inl (by omega)
     ·cases hb:Mail.box k.fLa a with
      | nil=>rw [hb] at h1; cases h1
      | cons b bs =>
       rw [hb] at h1 hmx
       simp only [List.getD_cons_zero] at hmx
       rcases mem_cons.1 h1 with h2 | h2
       ·exact .inl (by simp only [List.getD_cons_zero]; omega)
       ·exact .inr (by simpa using h2)
    ·rw [if_neg e,if_neg e]; exact old
   ·rw [hh]
    have h1:=I.hi a
    have h2:=I.hi c
    split
    ·show _ <= (k.fGa.1.length:Int); omega
    ·exact h1
   ·rw [hbuf]; split
    ·exact hcl.1
    ·exact I.tok a ha
   ·rw [hbuf] at hl
    by_cases e:a = c
    ·rw [if_pos e] at hl
     obtain ⟨_,c1,c2⟩:=hcl.2 l hl he
     exact ⟨c1,fun d y hy _=>c2 y (tells_mem hy) hy.2⟩
    ·rw [if_neg e] at hl
     have L:=I.line a ha l hl he
     refine ⟨L.cov,fun d y hy hhe=>L.stay d y hy ?_⟩
     rcases hhe with h1 | h1
     ·exact .inl h1
     ·rw [hh,if_neg e] at h1; exact .inr h1
end
section
open Go Mb
namespace Mb
theorem least {p:Nat->Prop}:∀ (n:Nat),p n->∃ m,p m/\∀ k,p k->m <= k:=by
 intro n
 induction n using Nat.strongRecOn with
 | _ n ih =>
  intro hn
  by_cases h:∃ k,k < n/\p k
  ·obtain ⟨k,hk,hpk⟩:=h
   exact ih k hk hpk
  ·exact ⟨n,hn,fun k hk=>le_of_not_lt fun hlt=>h ⟨k,hlt,hk⟩⟩
theorem Lp.ghost {σ γ:Type} {step:(σ->Hp->Prop)->σ->Hp->Prop} (I:γ->σ->Hp->Prop) (μ:γ->Nat) {s:σ} {h:Hp} {g:γ} (h0:I g s h)
  (hs:∀ g s h,I g s h->∀ R:σ->Hp->Prop,(∀ g' s' h',I g' s' h'->μ g' < μ g->R s' h')->step R s h):Lp step s h:=by
 have mins:∀ s h,(∃ g,I g s h)->∃ m,(∃ g,I g s h/\μ g = m)/\∀ k,(∃ g,I g s h/\μ g = k)->m <= k:=by
  rintro s h ⟨g,hg⟩
  exact least (p:=fun m=>∃ g,I g s h/\μ g = m) (μ g) ⟨g,hg,rfl⟩
 let M:σ->Hp->Nat:=fun s h=>@dite Nat (∃ g,I g s h) (Classical.propDecidable _) (fun H=>Classical.choose (mins s h H)) (fun _=>0)
 have hM:∀ s h,(∃ g,I g s h)->(∃ g,I g s h/\μ g = M s h)/\∀ g,I g s h->M s h <= μ g:=by
  intro s h H
  have e:M s h = Classical.choose (mins s h H):=by
   show @dite Nat (∃ g,I g s h) (Classical.propDecidable _) _ _ = _
   rw [dif_pos H]
  have sp:=Classical.choose_spec (mins s h H)
  rw [e]
  exact ⟨sp.1,fun g hg=>sp.2 _ ⟨g,hg,rfl⟩⟩
 refine Lp.intro (fun s h=>∃ g,I g s h) M ⟨g,h0⟩ fun s h H=>?_
 obtain ⟨⟨g,hg,e⟩,_⟩:=hM s h H
 refine hs g s h hg _ fun g' s' h' hg' hlt=>⟨⟨g',hg'⟩,?_⟩
 have:=(hM s' h' ⟨g',hg'⟩).2 g' hg'
 omega
end Mb
namespace fAa
structure Sub (t o:T):Prop where
 len:t.length = o.length
 get:∀ e s,has o e s = true->get t e s = mw\/get t e s = get o e s
def more1 (o t:T) (e s:Int):Bool × T :=
 if (at_ o e s).2 = false\/(at_ t e s).2 = true then (false,t)
 else if (at_ o e s).1.fCa < 0 then ((root t e s (at_ o e s).1.fEa).1 == 0,(root t e s (at_ o e s).1.fEa).2)
 else ((derive t (at_ o e s).1.fCa (at_ o e s).1.fDa e s (at_ o e s).1.fBa).1 == 0,(derive t (at_ o e s).1.fCa (at_ o e s).1.fDa e s (at_ o e s).1.fBa).2)
def moreS (o:T) (e:Nat):Nat->Bool × T->Bool × T
 | 0,st=>st
 | n + 1,st=>((moreS o e n st).1 || (more1 o (moreS o e n st).2 e n).1,(more1 o (moreS o e n st).2 e n).2)
def moreE (o:T):Nat->Bool × T->Bool × T
 | 0,st=>st
 | m + 1,st=>moreS o m 8 (moreE o m st)
def missing (o t:T) (p:Nat × Nat):Bool:=(at_ o p.1 p.2).2 && !(at_ t p.1 p.2).2
def pairs (n:Nat):List (Nat × Nat):=(range n).flatMap fun e=>(range 8).map fun s=>(e,s)
def miss (o t:T):Nat:=(pairs o.length).countP (missing o t)
theorem mem_pairs {n e s:Nat}:(e,s) ∈ pairs n↔e < n/\s < 8:=by
 unfold pairs; simp [List.mem_flatMap]
theorem countP_lt {α:Type} {P Q:α->Bool} {a:α}:∀ {l:List α},(∀ x ∈ l,Q x = true->P x = true)->a ∈ l->P a = true->Q a = false->l.countP Q < l.countP P
 | [],_,h,_,_=>by cases h
 | x::l,h1,h2,h3,h4=>by
  have le:∀ {l:List α},(∀ x ∈ l,Q x = true->P x = true)->l.countP Q <= l.countP P:=fun h=>List.countP_mono_left h
  rcases mem_cons.1 h2 with rfl | h2
  ·rw [List.countP_cons_of_pos h3,List.countP_cons_of_neg (by rw [h4]; exact Bool.false_ne_true)]
   have:=le (l:=l) (fun x hx=>h1 x (by simp [hx]))
   omega
  ·have ih:=countP_lt (l:=l) (fun x hx=>h1 x (by simp [hx])) h2 h3 h4
   by_cases hq:Q x = true
   ·rw [List.countP_cons_of_pos hq,List.countP_cons_of_pos (h1 x (by simp) hq)]; omega
   ·rw [List.countP_cons_of_neg hq]
    by_cases hpx:P x = true
    ·rw [List.countP_cons_of_pos hpx]; omega
    ·rw [List.countP_cons_of_neg hpx]; omega
theorem pY {t:T} {e s:Int}:(at_ t e s).2 = true↔has t e s = true/\(get t e s).fBa ≠ 0:=by
 unfold at_; split
 ·rename_i h; exact ⟨fun _=>h,fun _=>rfl⟩
 ·rename_i h; exact ⟨fun hh=>(by cases hh),fun hh=>absurd hh h⟩
theorem at_fst {t:T} {e s:Int} (h:(at_ t e s).2 = true):(at_ t e s).1 = get t e s:=by
 have:=pY.1 h
 unfold at_; rw [if_pos this]
theorem sub_has {t o:T} (h:Sub t o) (e s:Int):has t e s = has o e s:=by unfold has; rw [h.len]
theorem cap_empty {n:Int} {o:T} {c:Cap} (h:CapFine n o c) (h0:c.fBa = 0):c = mw:=by
 rcases h with h | h | h
 ·exact h
 ·omega
 ·have:=(dr h.2.2.2.1).1; omega
theorem more1_is {n:Int} {o t:T} (hn:n <= 16) (ok:Ok o) (F:eO n o) (okt:Ok t) (sb:Sub t o) {e s:Int} (hh:has o e s = true) :
  (more1 o t e s = (false,t)/\((at_ o e s).2 = true->(at_ t e s).2 = true\/(0 <= (get o e s).fCa/\(get t (get o e s).fCa (get o e s).fDa).fBa = 0))) \/
  (more1 o t e s = (true,put t e s (get o e s))/\(get t e s).fBa = 0/\(get o e s).fBa ≠ 0/\(0 <= (get o e s).fCa->has t (get o e s).fCa (get o e s).fDa = true/\(get t (get o e s).fCa (get o e s).fDa).fBa ≠ 0)):=by
 by_cases h1:(at_ o e s).2 = true
 ·by_cases h2:(at_ t e s).2 = true
  ·left
   exact ⟨by unfold more1; rw [if_pos (.inr h2)],fun _=>.inl h2⟩
  ·have hno:¬ ((at_ o e s).2 = false\/(at_ t e s).2 = true):=by simp [h1,h2]
   have hc:=(pY.1 h1).2
   have hf:=at_fst h1
   have hht:has t e s = true:=by rw [sub_has sb]; exact hh
   have h0:(get t e s).fBa = 0:=by
    by_cases hz:(get t e s).fBa = 0
    ·exact hz
    ·exact absurd (pY.2 ⟨hht,hz⟩) h2
   rcases F e s hh with ec | ec | ec
   ·rw [ec] at hc; exact absurd rfl hc
   ·right
    have hneg:(get o e s).fCa < 0:=by omega
    have er:root t e s (get o e s).fEa = (0,put t e s (get o e s)):=by
     unfold root
     rw [if_neg (by simp [hht]; omega),if_neg (by simp [h0])]
     have:(⟨(get o e s).fEa,3,-1,0⟩:Cap) = get o e s:=by
      obtain ⟨a1,a2,a3,_⟩:=ec
      cases hg:get o e s
      rw [hg] at a1 a2 a3
      simp_all
     rw [this]
    refine ⟨?_,h0,hc,fun hp=>absurd hp (by omega)⟩
    unfold more1
    rw [if_neg hno,hf,if_pos hneg,er]; rfl
   ·have hpos:¬ (get o e s).fCa < 0:=by omega
    obtain ⟨p1,p2⟩:=parent_has ok hh hc ec.1
    have p1t:has t (get o e s).fCa (get o e s).fDa = true:=by rw [sub_has sb]; exact p1
    have hw:=dr ec.2.2.2.1
    have hmay:ci (get o e s).fBa = true:=vH.2 hw.1
    by_cases hp:(get t (get o e s).fCa (get o e s).fDa).fBa = 0
    ·left
     have ed:derive t (get o e s).fCa (get o e s).fDa e s (get o e s).fBa = (3,t):=by
      unfold derive
      rw [if_neg (by simp [p1t,hht,hmay]),if_pos hp]
     refine ⟨?_,fun _=>.inr ⟨ec.1,hp⟩⟩
     unfold more1
     rw [if_neg hno,hf,if_neg hpos,ed]; rfl
    ·right
     have eg:get t (get o e s).fCa (get o e s).fDa = get o (get o e s).fCa (get o e s).fDa:=by
      rcases sb.get _ _ p1 with h | h
      ·rw [h] at hp; exact absurd rfl hp
      ·exact h
     have ed:derive t (get o e s).fCa (get o e s).fDa e s (get o e s).fBa = (0,put t e s (get o e s)):=by
      unfold derive
      rw [if_neg (by simp [p1t,hht,hmay]),if_neg hp,if_neg (by simp [h0]),eg,if_neg (by simp [ec.2.2.2.1]),ec.2.2.2.2]
     refine ⟨?_,h0,hc,fun _=>⟨p1t,hp⟩⟩
     unfold more1
     rw [if_neg hno,hf,if_neg hpos,ed]; rfl
 ·left
  exact ⟨by unfold more1; rw [if_pos (.inl (by simpa using h1))],fun h=>absurd h h1⟩
structure Way (o t0 t:T) (b:Bool) (D:Nat->Nat->Prop):Prop where
 ok:Ok t
 sub:Sub t o
 same:b = false->t = t0
 no:b = false->∀ e s:Nat,D e s->(more1 o t0 e s).1 = false
 le:miss o t <= miss o t0
 lt:b = true->miss o t < miss o t0
theorem way_step {n:Int} {o t0 t:T} {b:Bool} {D:Nat->Nat->Prop} (hn:n <= 16) (ok:Ok o) (F:eO n o) (w:Way o t0 t b D) {e s:Nat} (he:e < o.length) (hs:s < 8) :
  Way o t0 (more1 o t e s).2 (b || (more1 o t e s).1) (fun a i=>D a i\/(a = e/\i = s)):=by
 have hh:has o e s = true:=has_of he hs
 have hht:has t e s = true:=by rw [sub_has w.sub]; exact hh
 rcases more1_is hn ok F w.ok w.sub hh with ⟨e1,h1⟩ | ⟨e1,h0,hc,hp⟩
 ·rw [e1,Bool.or_false]
  refine ⟨w.ok,w.sub,w.same,fun hb a i hd=>?_,w.le,w.lt⟩
  rcases hd with hd | ⟨rfl,rfl⟩
  ·exact w.no hb a i hd
  ·have:=w.same hb
   rw [← this,e1]
 ·rw [e1,Bool.or_true]
  have gp:∀ a i,has o a i = true->get (put t e s (get o e s)) a i = if a = e/\i = s then get o e s else get t a i:=fun a i hai=>get_put w.ok.row hht (by rw [sub_has w.sub]; exact hai) _
  have hlt:miss o (put t e s (get o e s)) < miss o t:=by
   unfold miss
   refine countP_lt (a:=(e,s)) (fun q hq hm=>?_) (mem_pairs.2 ⟨he,hs⟩) ?_ ?_
   ·unfold missing at hm ⊢
    rw [and_eq_true] at hm ⊢
    refine ⟨hm.1,?_⟩
    have hq':=(pY.1 hm.1).1
    have hm2:¬ (at_ (put t e s (get o e s)) q.1 q.2).2 = true:=by simpa using hm.2
    have:¬ (at_ t q.1 q.2).2 = true:=by
     intro hat
     apply hm2
     have h3:=pY.1 hat
     refine pY.2 ⟨by rw [put_has]; exact h3.1,?_⟩
     rw [gp _ _ hq']
     split
     ·exact hc
     ·exact h3.2
    simpa using this
   ·unfold missing
    have a1:(at_ o e s).2 = true:=pY.2 ⟨hh,hc⟩
    have a2:(at_ t e s).2 = false:=by
     cases hat:(at_ t e s).2 with
     | false=>rfl
     | true=>exact absurd h0 (pY.1 hat).2
    simp only [a1,a2]; rfl
   ·unfold missing
    have a2:(at_ (put t e s (get o e s)) e s).2 = true:=pY.2 ⟨by rw [put_has]; exact hht,by rw [gp _ _ hh,if_pos ⟨rfl,rfl⟩]; exact hc⟩
    simp only [a2]; simp
  refine ⟨ok_put w.ok hht h0 _ hp,⟨by rw [put_len]; exact w.sub.len,fun a i hai=>?_⟩,fun h=>(by cases h),fun h=>(by cases h),Nat.le_of_lt (Nat.lt_of_lt_of_le hlt w.le),fun _=>Nat.lt_of_lt_of_le hlt w.le⟩
  rw [gp a i hai]
  split
  ·rename_i hai2; obtain ⟨rfl,rfl⟩:=hai2; exact .inr rfl
  ·exact w.sub.get a i hai
theorem way_mono {o t0 t:T} {b:Bool} {D D':Nat->Nat->Prop} (w:Way o t0 t b D) (h:∀ e s,D' e s->D e s):Way o t0 t b D':=⟨w.ok,w.sub,w.same,fun hb e s hd=>w.no hb e s (h e s hd),w.le,w.lt⟩
theorem way_row {n:Int} {o t0 t:T} {b:Bool} {e:Nat} (hn:n <= 16) (ok:Ok o) (F:eO n o) (he:e < o.length) (w:Way o t0 t b (fun a i=>a < e/\i < 8)):∀ j,j <= 8->Way o t0 (moreS o e j (b,t)).2 (moreS o e j (b,t)).1 (fun a i=>a < e/\i < 8\/a = e/\i < j)
 | 0,_=>way_mono w fun a i h=>by rcases h with h | h; exact h; omega
 | j + 1,hj=>by
  have:=way_step hn ok F (way_row hn ok F he w j (by omega)) he (s:=j) (by omega)
  exact way_mono this fun a i h=>by
   rcases h with h | h
   ·exact .inl (.inl h)
   ·by_cases e1:i = j
    ·exact .inr ⟨h.1,e1⟩
    ·exact .inl (.inr ⟨h.1,by omega⟩)
theorem way_all {n:Int} {o t:T} (hn:n <= 16) (ok:Ok o) (F:eO n o) (okt:Ok t) (sb:Sub t o):∀ m,m <= o.length->Way o t (moreE o m (false,t)).2 (moreE o m (false,t)).1 (fun a i=>a < m/\i < 8)
 | 0,_=>⟨okt,sb,fun _=>rfl,fun _ e s h=>(by omega),le_refl _,fun h=>(by cases h)⟩
 | m + 1,hm=>by
  have:=way_row hn ok F (e:=m) (by omega) (way_all hn ok F okt sb m (by omega)) 8 (le_refl _)
  exact way_mono this fun a i h=>by
   by_cases e1:a = m
   ·exact .inr ⟨e1,h.2⟩
   ·exact .inl ⟨by omega,h.2⟩
theorem all_there {n:Int} {o t:T} (hn:n <= 16) (ok:Ok o) (F:eO n o) (okt:Ok t) (sb:Sub t o) (hno:∀ e s:Nat,e < o.length->s < 8->(more1 o t e s).1 = false):t = o:=by
 obtain ⟨rank,hr⟩:=ok.rk
 have key:∀ (r:Nat) (e s:Nat),e < o.length->s < 8->rank e s <= r->get t e s = get o e s:=by
  intro r
  induction r using Nat.strongRecOn with
  | _ r ih =>
   intro e s he hs hrk
   have hh:has o e s = true:=has_of he hs
   by_cases hz:(get o e s).fBa = 0
   ·have e0:=cap_empty (F e s hh) hz
    rcases sb.get e s hh with h | h
    ·rw [h,e0]
    ·exact h
   ·rcases more1_is hn ok F okt sb hh with ⟨e1,h1⟩ | ⟨e1,_⟩
    ·rcases h1 (pY.2 ⟨hh,hz⟩) with h2 | ⟨h2,h3⟩
     ·rcases sb.get e s hh with h | h
      ·have:=(pY.1 h2).2; rw [h] at this; exact absurd rfl this
      ·exact h
     ·exfalso
      obtain ⟨q1,q2,q3⟩:=hr e s hh hz h2
      obtain ⟨a,i,ea,ei,ha,hi⟩:=has_nat q1
      rw [ea,ei] at q2 q3 h3
      have:=ih (rank a i) (by omega) a i ha hi (le_refl _)
      rw [this] at h3; exact q2 h3
    ·have:=hno e s he hs
     rw [e1] at this; cases this
 apply List.ext_getElem?
 intro m
 by_cases hm:m < o.length
 ·have hmt:m < t.length:=by rw [sb.len]; exact hm
  rw [getElem?_eq_getElem hm,getElem?_eq_getElem hmt]
  congr 1
  have l1:=ok.row _ (getElem_mem hm)
  have l2:=okt.row _ (getElem_mem hmt)
  apply List.ext_getElem (by rw [l1,l2])
  intro s h1 h2
  have hs:s < 8:=by omega
  obtain ⟨_,g1⟩:=get_nat' ok.row hm hs
  obtain ⟨_,g2⟩:=get_nat' okt.row hmt hs
  rw [← g1,← g2]
  exact key _ m s hm hs (le_refl _)
 ·have hmt:¬ m < t.length:=by rw [sb.len]; exact hm
  rw [getElem?_eq_none (le_of_not_lt hm),getElem?_eq_none (le_of_not_lt hmt)]
end fAa
end
end Go.Proofs.YtemoifebbhoinaaGreatDoor
