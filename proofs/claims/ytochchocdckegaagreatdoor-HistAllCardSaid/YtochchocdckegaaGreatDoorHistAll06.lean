/- Part of the proof of: The law HistAll returns true for every input, and leaves its arguments as they were. -/
import Derived.Test.YtochchocdckegaaGreatDoorHistAll05
set_option linter.all false
set_option maxRecDepth 20000
namespace Go.Proofs.YtochchocdckegaaGreatDoor
open Go.Proofs.Tryz
open Go.IntKind (i64 u64)
open _root_.Int (toNat_natCast)
open _root_.List (getElem_mem mem_replicate replicate)
open _root_.Nat (le_refl zero_le)
section
open Go Mb
structure PK where
 s:aK
 m:List (List Int)
 tabs:List (List Pte)
 pool:List Int
 caps:fAa.T
abbrev gZ:=ac
abbrev gX:=aK
namespace PK
def off (k:PK) (e:Int):Bool:=decide (e < 0) || decide (e >= k.s.fIa)
def tab (k:PK) (e:Int):List Pte:=k.tabs.getD e.toNat []
def pte (k:PK) (e p:Int):Pte × Bool:=if off k e = true then (eW,false) else Table.get (tab k e) p
def touch (k:PK) (f:Int) (c:kl):(gZ × Bool) × PK :=
 if (Word.arg c 2 16).2 = false\/dI (aH c).1 = false then ((⟨0,0⟩,false),k)
 else if (aH c).1 = 20 then ((⟨0,(Mem.load k.m f (Word.arg c 2 16).1).1⟩,(Mem.load k.m f (Word.arg c 2 16).1).2),k)
 else if (aH c).1 = 21 then ((⟨0,0⟩,(Mem.store k.m f (Word.arg c 2 16).1 c.e3).1),{ k with m:=(Mem.store k.m f (Word.arg c 2 16).1 c.e3).2 })
 else if (aH c).1 = 22 then ((⟨0,(Mem.cas k.m f (Word.arg c 2 16).1 c.e3 c.e4).1.1⟩,(Mem.cas k.m f (Word.arg c 2 16).1 c.e3 c.e4).1.2),{ k with m:=(Mem.cas k.m f (Word.arg c 2 16).1 c.e3 c.e4).2 })
 else ((⟨0,(Mem.add k.m f (Word.arg c 2 16).1 c.e3).1.1⟩,(Mem.add k.m f (Word.arg c 2 16).1 c.e3).1.2),{ k with m:=(Mem.add k.m f (Word.arg c 2 16).1 c.e3).2 })
def alloc (k:PK) (e s:Int):Int × PK :=
 if (fAa.at_ k.caps e s).2 = true then (4,k) else if (Pool.take k.pool).2.1 = false then (6,k)
 else ((fAa.root k.caps e s (Pool.take k.pool).1).1,{ k with pool:=(Pool.take k.pool).2.2,m:=(Mem.zero k.m (Pool.take k.pool).1).2,caps:=(fAa.root k.caps e s (Pool.take k.pool).1).2 })
def derive (k:PK) (e src to dst r:Int):Int × PK :=
 if (fAa.derive k.caps e src to dst r).1 ≠ 0 then ((fAa.derive k.caps e src to dst r).1,k)
 else if (Pool.hold k.pool (fAa.at_ (fAa.derive k.caps e src to dst r).2 to dst).1.fFa).1 = false then (6,{ k with caps:=(fAa.drop (fAa.derive k.caps e src to dst r).2 to dst).2 })
 else (0,{ k with caps:=(fAa.derive k.caps e src to dst r).2,pool:=(Pool.hold k.pool (fAa.at_ (fAa.derive k.caps e src to dst r).2 to dst).1.fFa).2 })
def unmaps (ps:List Pte):List Int->List Pte
 | []=>ps
 | i::l=>unmaps (Table.remove ps i).2 l
def unmap (ps:List Pte) (s:Int):List Pte:=unmaps ps (Table.by_ ps s)
def gone (k:PK) (f:Int):List dA->PK
 | []=>k
 | p::l=>gone { k with tabs:=k.tabs.set p.fCa.toNat (unmap (tab k p.fCa) p.fEa),pool:=(Pool.lets k.pool f).2.2 } f l
def revoke (k:PK) (e s:Int) (w:Bool):gZ × PK :=
 if (fAa.revoke k.caps e s).1.2 ≠ 0 then (⟨(fAa.revoke k.caps e s).1.2,0⟩,k)
 else if w = true then (⟨0,u64.wrap ((fAa.revoke k.caps e s).1.1++(fAa.drop (fAa.revoke k.caps e s).2 e s).1.1).length⟩,
  gone { k with caps:=(fAa.drop (fAa.revoke k.caps e s).2 e s).2 } (fAa.at_ k.caps e s).1.fFa ((fAa.revoke k.caps e s).1.1++(fAa.drop (fAa.revoke k.caps e s).2 e s).1.1))
 else (⟨0,u64.wrap (fAa.revoke k.caps e s).1.1.length⟩,gone { k with caps:=(fAa.revoke k.caps e s).2 } (fAa.at_ k.caps e s).1.fFa (fAa.revoke k.caps e s).1.1)
def maps (k:PK) (e pg s r:Int):Int × PK :=
 if (fAa.at_ k.caps e s).2 = false then (3,k) else if (Table.get (tab k e) pg).2 = true then (4,k) else if bm r (fAa.at_ k.caps e s).1.fBa = false then (5,k)
 else ((Table.insert (tab k e) pg ⟨(fAa.at_ k.caps e s).1.fFa,s,r⟩).1,{ k with tabs:=k.tabs.set e.toNat (Table.insert (tab k e) pg ⟨(fAa.at_ k.caps e s).1.fFa,s,r⟩).2 })
def protect (k:PK) (e pg r:Int):Int × PK :=
 if (Table.get (tab k e) pg).2 = false then (3,k) else if bm r (fAa.at_ k.caps e (Table.get (tab k e) pg).1.fEa).1.fBa = false then (5,k)
 else ((Table.protect (tab k e) pg r).1,{ k with tabs:=k.tabs.set e.toNat (Table.protect (tab k e) pg r).2 })
def remove (k:PK) (e pg:Int):Int × PK:=((Table.remove (tab k e) pg).1.2,{ k with tabs:=k.tabs.set e.toNat (Table.remove (tab k e) pg).2 })
def sleep (k:PK) (e:Int) (c:kl):gZ × Bool :=
 if (fAa.at_ k.caps e (i64.wrap c.e1)).2 = false then (⟨3,0⟩,true) else if bm 1 (fAa.at_ k.caps e (i64.wrap c.e1)).1.fBa = false then (⟨5,0⟩,true)
 else if nD (i64.wrap c.e3) (Mem.load k.m (fAa.at_ k.caps e (i64.wrap c.e1)).1.fFa (i64.wrap c.e2)).1 c.e4 = false then (⟨0,0⟩,false)
 else (⟨0,(Mem.load k.m (fAa.at_ k.caps e (i64.wrap c.e1)).1.fFa (i64.wrap c.e2)).1⟩,true)
def user (k:PK) (e:Int) (c:kl):gZ × PK :=
 if (Table.get (tab k e) (i64.wrap c.e1)).2 = false\/dE (Table.get (tab k e) (i64.wrap c.e1)).1.fBa (i64.wrap c.e0) = false then (⟨7,0⟩,k)
 else ((touch k (Table.get (tab k e) (i64.wrap c.e1)).1.fFa c).1.1,(touch k (Table.get (tab k e) (i64.wrap c.e1)).1.fFa c).2)
def errs (r:Int × PK):(gZ × Bool) × PK:=((⟨r.1,0⟩,true),r.2)
def does (k:PK) (e:Int) (c:kl):(gZ × Bool) × PK :=
 if i64.wrap c.e0 = 1 then errs (alloc k e (i64.wrap c.e1))
 else if i64.wrap c.e0 = 2 then errs (derive k e (i64.wrap c.e1) e (i64.wrap c.e2) (i64.wrap c.e3))
 else if i64.wrap c.e0 = 3 then errs (derive k e (i64.wrap c.e1) (i64.wrap c.e2) (i64.wrap c.e3) (i64.wrap c.e4))
 else if i64.wrap c.e0 = 5 then (((revoke k e (i64.wrap c.e1) true).1,true),(revoke k e (i64.wrap c.e1) true).2)
 else if i64.wrap c.e0 = 4 then (((revoke k e (i64.wrap c.e1) false).1,true),(revoke k e (i64.wrap c.e1) false).2)
 else if i64.wrap c.e0 = 6 then errs (maps k e (i64.wrap c.e1) (i64.wrap c.e2) (i64.wrap c.e3))
 else if i64.wrap c.e0 = 7 then errs (remove k e (i64.wrap c.e1))
 else if i64.wrap c.e0 = 8 then errs (protect k e (i64.wrap c.e1) (i64.wrap c.e2))
 else if i64.wrap c.e0 = 9 then (sleep k e c,k)
 else if i64.wrap c.e0 = 10 then ((⟨0,0⟩,true),k)
 else (((user k e c).1,true),(user k e c).2)
def do_ (k:PK) (e:Int) (c:kl):(gZ × Bool) × PK :=
 if off k e = true then ((⟨10,0⟩,true),k) else if Word.check c k.s.fIa ≠ 0 then ((⟨Word.check c k.s.fIa,0⟩,true),k) else does k e c
def new (s:gX):PK:=⟨s,replicate s.fYa.toNat (replicate 16 0),replicate s.fIa.toNat (replicate 8 eW),replicate s.fYa.toNat 0,replicate s.fIa.toNat (replicate 8 rZ)⟩
def sized (s:gX):Bool:=!(decide (s.fOa < 1) || decide (s.fOa > 8) || decide (s.fIa < 1) || decide (s.fIa > 4) || decide (s.fYa < 1) || decide (s.fYa > 16))
end PK
def PteFine (p:Pte):Prop:=p = eW\/(0 <= p.fFa/\p.fFa < 16/\0 <= p.fEa/\p.fEa < 8/\cK p.fBa = true)
def CapFine (n:Int) (t:fAa.T) (c:Cap):Prop :=
 c = rZ\/(c.fBa = 3/\c.fCa = -1/\c.fEa = 0/\0 <= c.fFa/\c.fFa < n) \/
 (0 <= c.fCa/\0 <= c.fFa/\c.fFa < n/\bm c.fBa (fAa.get t c.fCa c.fEa).fBa = true/\(fAa.get t c.fCa c.fEa).fFa = c.fFa)
def fT (n:Int) (t:fAa.T):Prop:=∀ e s,fAa.has t e s = true->CapFine n t (fAa.get t e s)
structure PK.Ok (k:PK):Prop where
 sz:PK.sized k.s = true
 ml:(k.m.length:Int) = k.s.fYa
 mr:∀ r ∈ k.m,r.length = 16
 tl:(k.tabs.length:Int) = k.s.fIa
 tr:∀ ps ∈ k.tabs,ps.length = 8/\∀ p ∈ ps,PteFine p
 pl:(k.pool.length:Int) = k.s.fYa
 pr:∀ n ∈ k.pool,0 <= n/\n <= 7
 cl:(k.caps.length:Int) = k.s.fIa
 tree:fAa.Ok k.caps
 fine:fT k.s.fYa k.caps
theorem jR {s:gX}:PK.sized s = true↔1 <= s.fOa/\s.fOa <= 8/\1 <= s.fIa/\s.fIa <= 4/\1 <= s.fYa/\s.fYa <= 16:=by
 unfold PK.sized; simp; omega
theorem may_iff {r:Int}:cK r = true↔1 <= r/\r <= 3:=by unfold cK; simp
theorem wY {a b:Int} (h:bm a b = true):(1 <= a/\a <= 3)/\(1 <= b/\b <= 3):=by
 unfold bm at h; simp only [Bool.and_eq_true,may_iff] at h; exact h.1
theorem wrapR {n:Int} (h0:-2^63 <= n) (h1:n < 2^63):i64.wrap n = n:=bp h0 h1
theorem ok_new {s:gX} (h:PK.sized s = true):PK.Ok (PK.new s):=by
 have hs:=jR.1 h;refine ⟨h,by simp [PK.new]; omega,?_,by simp [PK.new]; omega,?_,by simp [PK.new]; omega,?_,by simp [PK.new]; omega,fAa.ok_new _ (by omega),?_⟩
 ·intro r hr; rw [(mem_replicate.1 hr).2]; rfl
 ·intro r hr; rw [(mem_replicate.1 hr).2];exact ⟨rfl,fun p hp=>.inl (mem_replicate.1 hp).2⟩
 ·intro r hr; rw [(mem_replicate.1 hr).2]; omega
 ·intro e i hh;obtain ⟨a,b,rfl,rfl,ha,hb⟩:=fAa.has_nat hh;simp only [PK.new,List.length_replicate] at ha
  left
  simp only [fAa.get,PK.new,toNat_natCast,List.getD_eq_getElem?_getD,List.getElem?_replicate,if_pos ha,Option.getD_some,if_pos hb]
def qv (ps:List Pte):Prop:=ps.length = 8/\∀ p ∈ ps,PteFine p
theorem tab_set {ps:List Pte} (h:qv ps) (n:Nat) {p:Pte} (hp:PteFine p):qv (ps.set n p) :=
 ⟨by simpa using h.1,fun q hq=>by
  rcases List.mem_or_eq_of_mem_set hq with h1 | h1
  ·exact h.2 q h1
  ·subst h1; exact hp⟩
theorem tab_at {ps:List Pte} (h:qv ps) (i:Int):PteFine (Table.at_ ps i):=by
 unfold Table.at_;by_cases hi:i.toNat < ps.length
 ·simp [hi]; exact h.2 _ (getElem_mem hi)
 ·simp [List.getD_eq_getElem?_getD,List.getElem?_eq_none (Nat.le_of_not_lt hi)]; exact .inl rfl
theorem put_fine {p:Pte} (h:(gS p).2 = true) (h0:p.fBa ≠ 0):PteFine p:=by
 unfold gS at h;cases hq:an.eqb p ⟨0,0,0⟩ with
 | true =>
  exfalso; apply h0
  unfold an.eqb at hq;simp at hq; exact hq.2.2
 | false =>
  rw [hq] at h;simp only [cond_false] at h;cases hb:(((((decide (p.fFa < 0)) || (decide (p.fFa >= 16))) || (decide (p.fEa < 0))) || (decide (p.fEa >= 8))) || (!(cK p.fBa))) with
  | true=>rw [hb] at h; simp at h
  | false =>
   simp at hb;obtain ⟨⟨⟨⟨h1,h2⟩,h3⟩,h4⟩,h5⟩:=hb;exact .inr ⟨h1,h2,h3,h4,h5⟩
theorem tab_insert {ps:List Pte} (h:qv ps) (i:Int) (p:Pte):qv (Table.insert ps i p).2:=by
 unfold Table.insert;split
 ·exact h
 ·split
  ·exact h
  ·rename_i h1 _;simp at h1;exact tab_set h _ (put_fine h1.1 h1.2.1)
theorem tab_remove {ps:List Pte} (h:qv ps) (i:Int):qv (Table.remove ps i).2:=by
 unfold Table.remove;split
 ·exact h
 ·split
  ·exact h
  ·exact tab_set h _ (.inl rfl)
theorem tab_protect {ps:List Pte} (h:qv ps) (i r:Int):qv (Table.protect ps i r).2:=by
 unfold Table.protect;split
 ·exact h
 ·split
  ·exact h
  ·rename_i h1 h2;simp at h1;refine tab_set h _ (.inr ?_);rcases tab_at h i with e | e
   ·rw [e] at h2; exact absurd rfl h2
   ·exact ⟨e.1,e.2.1,e.2.2.1,e.2.2.2.1,h1.2⟩
theorem tab_unmaps:∀ (l:List Int) {ps:List Pte},qv ps->qv (PK.unmaps ps l)
 | [],_,h=>h
 | i::l,_,h=>tab_unmaps l (tab_remove h i)
theorem tab_of {k:PK} (ok:PK.Ok k) {n:Nat} (h:n < k.tabs.length):PK.tab k n = k.tabs[n]/\qv k.tabs[n]:=by
 refine ⟨by simp [PK.tab,h],ok.tr _ (getElem_mem h)⟩
theorem tab_ok {k:PK} (ok:PK.Ok k) (e:Int) (h:e.toNat < k.tabs.length):qv (PK.tab k e):=by
 have:PK.tab k e = k.tabs[e.toNat]:=by simp [PK.tab,h]
 rw [this]; exact ok.tr _ (getElem_mem h)
theorem tabs_set {k:PK} (ok:PK.Ok k) (e:Int) {ps:List Pte} (h:e.toNat < k.tabs.length->qv ps):∀ qs ∈ k.tabs.set e.toNat ps,qv qs:=by
 intro qs hq;by_cases he:e.toNat < k.tabs.length
 ·rcases List.mem_or_eq_of_mem_set hq with h1 | h1
  ·exact ok.tr _ h1
  ·subst h1; exact h he
 ·rw [List.set_eq_of_length_le (by omega)] at hq; exact ok.tr _ hq
theorem ok_tabs {k:PK} (ok:PK.Ok k) (e:Int) {ps:List Pte} (h:e.toNat < k.tabs.length->qv ps):PK.Ok { k with tabs:=k.tabs.set e.toNat ps } :=
 ⟨ok.sz,ok.ml,ok.mr,by simpa using ok.tl,tabs_set ok e h,ok.pl,ok.pr,ok.cl,ok.tree,ok.fine⟩
theorem pool_set {p:List Int} (h:∀ n ∈ p,0 <= n/\n <= 7) (i:Nat) {v:Int} (hv:0 <= v/\v <= 7):∀ n ∈ p.set i v,0 <= n/\n <= 7:=by
 intro n hn;rcases List.mem_or_eq_of_mem_set hn with h1 | h1
 ·exact h n h1
 ·subst h1; exact hv
theorem refs_fine {p:List Int} (h:∀ n ∈ p,0 <= n/\n <= 7) (i:Int):0 <= Pool.refs p i/\Pool.refs p i <= 7:=by
 unfold Pool.refs;split
 ·omega
 ·by_cases hi:i.toNat < p.length
  ·simp [hi]; exact h _ (getElem_mem hi)
  ·simp [List.getD_eq_getElem?_getD,List.getElem?_eq_none (Nat.le_of_not_lt hi)]
theorem lets_fine {p:List Int} (h:∀ n ∈ p,0 <= n/\n <= 7) (i:Int):(Pool.lets p i).2.2.length = p.length/\∀ n ∈ (Pool.lets p i).2.2,0 <= n/\n <= 7:=by
 have hr:=refs_fine h i;unfold Pool.lets;split
 ·exact ⟨rfl,h⟩
 ·refine ⟨by simp,pool_set h _ ?_⟩;rw [wrapR (by omega) (by omega)]; omega
theorem hold_fine {p:List Int} (h:∀ n ∈ p,0 <= n/\n <= 7) (i:Int):(Pool.hold p i).2.length = p.length/\∀ n ∈ (Pool.hold p i).2,0 <= n/\n <= 7:=by
 have hr:=refs_fine h i;unfold Pool.hold;split
 ·exact ⟨rfl,h⟩
 ·refine ⟨by simp,pool_set h _ ?_⟩;rw [wrapR (by omega) (by omega)]; omega
theorem take_fine {p:List Int} (h:∀ n ∈ p,0 <= n/\n <= 7):(Pool.take p).2.2.length = p.length/\∀ n ∈ (Pool.take p).2.2,0 <= n/\n <= 7:=by
 unfold Pool.take;split
 ·exact ⟨rfl,h⟩
 ·exact ⟨by simp,pool_set h _ (by omega)⟩
theorem take_in {p:List Int} (h:(Pool.take p).2.1 = true):0 <= (Pool.take p).1/\(Pool.take p).1 < p.length:=by
 unfold Pool.take at h ⊢;split at h
 ·cases h
 ·rename_i h1;rw [if_neg h1];rcases idx_lt 0 p 0 with e | ⟨n,h2,e⟩
  ·omega
  ·simp only; omega
namespace fAa
theorem cf_root {n:Int} {t:T} {f:Int} (h0:0 <= f) (h1:f < n):CapFine n t ⟨f,3,-1,0⟩:=.inr (.inl ⟨rfl,rfl,rfl,h0,h1⟩)
theorem parent_has {t:T} (ok:Ok t) {e s:Int} (h:has t e s = true) (h1:(get t e s).fBa ≠ 0) (h2:0 <= (get t e s).fCa):has t (get t e s).fCa (get t e s).fEa = true/\(get t (get t e s).fCa (get t e s).fEa).fBa ≠ 0:=by
 obtain ⟨rank,hr⟩:=ok.rk;exact ⟨(hr e s h h1 h2).1,(hr e s h h1 h2).2.1⟩
theorem fine_put {n:Int} {t:T} (ok:Ok t) (F:fT n t) {e s:Int} (h:has t e s = true) (h0:(get t e s).fBa = 0) {c:Cap} (hc:CapFine n t c) (hc2:0 <= c.fCa->has t c.fCa c.fEa = true/\(get t c.fCa c.fEa).fBa ≠ 0):fT n (put t e s c):=by
 intro a b hab;rw [uV] at hab;have keep:∀ {i j:Int},has t i j = true->(get t i j).fBa ≠ 0->get (put t e s c) i j = get t i j:=by
  intro i j hij hn;rw [xV ok.row h hij,if_neg];rintro ⟨rfl,rfl⟩; exact hn h0
 rw [xV ok.row h hab];split
 ·rcases hc with e1 | e1 | e1
  ·exact .inl e1
  ·exact .inr (.inl e1)
  ·obtain ⟨p1,p2⟩:=hc2 e1.1;exact .inr (.inr ⟨e1.1,e1.2.1,e1.2.2.1,by rw [keep p1 p2]; exact e1.2.2.2.1,by rw [keep p1 p2]; exact e1.2.2.2.2⟩)
 ·rcases F a b hab with e1 | e1 | e1
  ·exact .inl e1
  ·exact .inr (.inl e1)
  ·have hm:=(wY e1.2.2.2.1).1;obtain ⟨p1,p2⟩:=parent_has ok hab (by omega) e1.1;exact .inr (.inr ⟨e1.1,e1.2.1,e1.2.2.1,by rw [keep p1 p2]; exact e1.2.2.2.1,by rw [keep p1 p2]; exact e1.2.2.2.2⟩)
theorem fine_empties {n:Int} {t:T} (ok:Ok t) (F:fT n t) {l:List dA} (hl:∀ p ∈ l,has t p.fCa p.fEa = true)
  (cl:∀ e s,has t e s = true->(get t e s).fBa ≠ 0->0 <= (get t e s).fCa->(⟨(get t e s).fCa,(get t e s).fEa⟩:dA) ∈ l->(⟨e,s⟩:dA) ∈ l):fT n (fAb t l):=by
 intro a b hab;rw [empties_has] at hab;rw [rJ l t ok.row hl a b hab];split
 ·exact .inl rfl
 ·rename_i hm;rcases F a b hab with e1 | e1 | e1
  ·exact .inl e1
  ·exact .inr (.inl e1)
  ·have hmy:=(wY e1.2.2.2.1).1;obtain ⟨p1,p2⟩:=parent_has ok hab (by omega) e1.1;have hp:(⟨(get t a b).fCa,(get t a b).fEa⟩:dA) ∉ l:=fun h=>hm (cl a b hab (by omega) e1.1 h);have hg:=rJ l t ok.row hl _ _ p1;rw [if_neg hp] at hg;exact .inr (.inr ⟨e1.1,e1.2.1,e1.2.2.1,by rw [hg]; exact e1.2.2.2.1,by rw [hg]; exact e1.2.2.2.2⟩)
theorem below_closed {t:T} (ok:Ok t) (e s:Int):∀ a b,has t a b = true->(get t a b).fBa ≠ 0->0 <= (get t a b).fCa->(⟨(get t a b).fCa,(get t a b).fEa⟩:dA) ∈ below t e s->(⟨a,b⟩:dA) ∈ below t e s:=by
 intro a b hab hne hen hp;have h1:=(mem_below ok).1 hp;refine (mem_below ok).2 ⟨hab,hne,?_⟩;rw [under_step ok hab,if_pos ⟨hne,hen⟩];split
 ·rfl
 ·exact h1.2.2
theorem own_closed {t:T} (ok:Ok t) (e s:Int):∀ a b,has t a b = true->(get t a b).fBa ≠ 0->0 <= (get t a b).fCa->(⟨(get t a b).fCa,(get t a b).fEa⟩:dA) ∈ own t e s->(⟨a,b⟩:dA) ∈ own t e s:=by
 intro a b hab hne hen hp;have h1:=(mem_own ok).1 hp;refine (mem_own ok).2 ⟨hab,hne,.inr ?_⟩;rw [under_step ok hab,if_pos ⟨hne,hen⟩];split
 ·rfl
 ·rename_i hno;rcases h1.2.2 with h | h
  ·exact absurd ⟨congrArg aO.fCa h,congrArg aO.fEa h⟩ hno
  ·exact h
theorem fine_revoke {n:Int} {t:T} (ok:Ok t) (F:fT n t) (e s:Int):fT n (revoke t e s).2:=by
 unfold revoke; split
 ·exact F
 ·exact fine_empties ok F (fun p hp=>((mem_below ok).1 hp).1) (below_closed ok e s)
theorem fine_drop {n:Int} {t:T} (ok:Ok t) (F:fT n t) (e s:Int):fT n (drop t e s).2:=by
 unfold drop; split
 ·exact F
 ·exact fine_empties ok F (fun p hp=>((mem_own ok).1 hp).1) (own_closed ok e s)
theorem fine_rootc {n:Int} {t:T} (ok:Ok t) (F:fT n t) (e s:Int) {f:Int} (h1:f < n) (h0:0 <= f):fT n (root t e s f).2:=by
 unfold root; split
 ·exact F
 ·split
  ·exact F
  ·rename_i c1 c2;simp at c1;exact fine_put ok F c1.1 (by simpa using c2) (cf_root h0 h1) (fun h=>absurd h (by show ¬ (0:Int) <= -1; omega))
theorem fine_derive {n:Int} {t:T} (ok:Ok t) (F:fT n t) (e src to dst r:Int):fT n (derive t e src to dst r).2:=by
 unfold derive;split
 ·exact F
 ·split
  ·exact F
  ·split
   ·exact F
   ·split
    ·exact F
    ·rename_i h1 h2 h3 h4;simp at h1;have hw:bm r (get t e src).fBa = true:=by simpa using h4
     have hf:0 <= (get t e src).fFa/\(get t e src).fFa < n:=by
      rcases F e src h1.1 with e1 | e1 | e1
      ·rw [e1] at h2; exact absurd rfl h2
      ·exact ⟨e1.2.2.2.1,e1.2.2.2.2⟩
      ·exact ⟨e1.2.1,e1.2.2.1⟩
     have h0:0 <= e:=by
      obtain ⟨a,b,rfl,_,_,_⟩:=has_nat h1.1;omega
     exact fine_put ok F h1.2.1 (by simpa using h3) (.inr (.inr ⟨h0,hf.1,hf.2,hw,rfl⟩)) (fun _=>⟨h1.1,h2⟩)
theorem root_len (t:T) (e s f:Int):(root t e s f).2.length = t.length:=by
 unfold root; split
 ·rfl
 ·split
  ·rfl
  ·exact put_len _ _ _ _
theorem derive_len (t:T) (e src to dst r:Int):(derive t e src to dst r).2.length = t.length:=by
 unfold derive; repeat' split
 all_goals first | rfl | exact put_len _ _ _ _
theorem revoke_len (t:T) (e s:Int):(revoke t e s).2.length = t.length:=by
 unfold revoke; split
 ·rfl
 ·exact rI _ _
theorem drop_len (t:T) (e s:Int):(drop t e s).2.length = t.length:=by
 unfold drop; split
 ·rfl
 ·exact rI _ _
end fAa
theorem put_row16 {m:List (List Int)} (h:∀ r ∈ m,r.length = 16) (i:Nat) {r:List Int} (hr:i < m.length->r.length = 16):∀ q ∈ m.set i r,q.length = 16:=by
 intro q hq;by_cases hi:i < m.length
 ·rcases List.mem_or_eq_of_mem_set hq with h1 | h1
  ·exact h q h1
  ·subst h1; exact hr hi
 ·rw [List.set_eq_of_length_le (by omega)] at hq; exact h q hq
theorem mput {m:List (List Int)} (h:∀ r ∈ m,r.length = 16) (f a v:Int):(Mem.put m f a v).length = m.length/\∀ r ∈ Mem.put m f a v,r.length = 16:=by
 refine ⟨by simp [Mem.put],put_row16 h _ fun hi=>?_⟩;simp [hi]; exact h _ (getElem_mem hi)
theorem mstore {m:List (List Int)} (h:∀ r ∈ m,r.length = 16) (f a v:Int):(Mem.store m f a v).2.length = m.length/\∀ r ∈ (Mem.store m f a v).2,r.length = 16:=by
 unfold Mem.store; split
 ·exact mput h f a v
 ·exact ⟨rfl,h⟩
theorem mcas {m:List (List Int)} (h:∀ r ∈ m,r.length = 16) (f a o v:Int):(Mem.cas m f a o v).2.length = m.length/\∀ r ∈ (Mem.cas m f a o v).2,r.length = 16:=by
 unfold Mem.cas; split
 ·exact mstore h f a v
 ·exact ⟨rfl,h⟩
theorem madd {m:List (List Int)} (h:∀ r ∈ m,r.length = 16) (f a v:Int):(Mem.add m f a v).2.length = m.length/\∀ r ∈ (Mem.add m f a v).2,r.length = 16:=by
 unfold Mem.add;exact mstore h f a _
theorem mzero {m:List (List Int)} (h:∀ r ∈ m,r.length = 16) (f:Int):(Mem.zero m f).2.length = m.length/\∀ r ∈ (Mem.zero m f).2,r.length = 16:=by
 unfold Mem.zero; split
 ·refine ⟨by simp,put_row16 h _ fun hi=>by simp⟩
 ·exact ⟨rfl,h⟩
theorem ok_mem {k:PK} (ok:PK.Ok k) {m:List (List Int)} (h:m.length = k.m.length/\∀ r ∈ m,r.length = 16):PK.Ok { k with m:=m } :=
 ⟨ok.sz,by rw [← ok.ml,← h.1],h.2,ok.tl,ok.tr,ok.pl,ok.pr,ok.cl,ok.tree,ok.fine⟩
theorem ok_touch {k:PK} (ok:PK.Ok k) (f:Int) (c:kl):PK.Ok (PK.touch k f c).2:=by
 unfold PK.touch;split
 ·exact ok
 ·split
  ·exact ok
  ·split
   ·exact ok_mem ok (mstore ok.mr _ _ _)
   ·split
    ·exact ok_mem ok (mcas ok.mr _ _ _ _)
    ·exact ok_mem ok (madd ok.mr _ _ _)
theorem ok_alloc {k:PK} (ok:PK.Ok k) (e s:Int):PK.Ok (PK.alloc k e s).2:=by
 unfold PK.alloc;split
 ·exact ok
 ·split
  ·exact ok
  ·rename_i h;have ht:=take_in (by simpa using h);have h1:=take_fine ok.pr;have h2:=mzero ok.mr (Pool.take k.pool).1;refine ⟨ok.sz,by rw [← ok.ml,← h2.1],h2.2,ok.tl,ok.tr,by rw [← ok.pl,← h1.1],h1.2,by rw [← ok.cl]; simp only [fAa.root_len],fAa.ok_root ok.tree _ _ _,?_⟩;exact fAa.fine_rootc ok.tree ok.fine _ _ (by rw [← ok.pl]; exact ht.2) ht.1
theorem ok_derive {k:PK} (ok:PK.Ok k) (e src to dst r:Int):PK.Ok (PK.derive k e src to dst r).2:=by
 have o1:=fAa.ok_derive ok.tree e src to dst r;have f1:=fAa.fine_derive ok.tree ok.fine e src to dst r;unfold PK.derive;split
 ·exact ok
 ·split
  ·exact ⟨ok.sz,ok.ml,ok.mr,ok.tl,ok.tr,ok.pl,ok.pr,by rw [← ok.cl]; simp only [fAa.drop_len,fAa.derive_len],fAa.ok_drop o1 _ _,fAa.fine_drop o1 f1 _ _⟩
  ·have h1:=hold_fine ok.pr (fAa.at_ (fAa.derive k.caps e src to dst r).2 to dst).1.fFa;exact ⟨ok.sz,ok.ml,ok.mr,ok.tl,ok.tr,by rw [← ok.pl,← h1.1],h1.2,by rw [← ok.cl]; simp only [fAa.derive_len],o1,f1⟩
theorem ok_gone:∀ (l:List dA) {k:PK} (_:PK.Ok k) (f:Int),PK.Ok (PK.gone k f l)
 | [],_,ok,_=>ok
 | p::l,k,ok,f=>by
  have h1:=lets_fine ok.pr f;have h2:=ok_tabs ok p.fCa (ps:=PK.unmap (PK.tab k p.fCa) p.fEa) (fun h=>tab_unmaps _ (tab_ok ok _ h));have h3:PK.Ok { k with tabs:=k.tabs.set p.fCa.toNat (PK.unmap (PK.tab k p.fCa) p.fEa),pool:=(Pool.lets k.pool f).2.2 } :=
   ⟨h2.sz,h2.ml,h2.mr,h2.tl,h2.tr,by rw [← ok.pl]; exact congrArg Int.ofNat h1.1,h1.2,h2.cl,h2.tree,h2.fine⟩
  exact ok_gone l h3 f
theorem ok_caps {k:PK} (ok:PK.Ok k) {t:fAa.T} (h:t.length = k.caps.length) (o:fAa.Ok t) (f:fT k.s.fYa t):PK.Ok { k with caps:=t } :=
 ⟨ok.sz,ok.ml,ok.mr,ok.tl,ok.tr,ok.pl,ok.pr,by rw [← ok.cl,← h],o,f⟩
theorem ok_revoke {k:PK} (ok:PK.Ok k) (e s:Int) (w:Bool):PK.Ok (PK.revoke k e s w).2:=by
 have o1:=fAa.ok_revoke ok.tree e s;have f1:=fAa.fine_revoke ok.tree ok.fine e s;unfold PK.revoke;split
 ·exact ok
 ·split
  ·exact ok_gone _ (ok_caps ok (by rw [fAa.drop_len,fAa.revoke_len]) (fAa.ok_drop o1 _ _) (fAa.fine_drop o1 f1 _ _)) _
  ·exact ok_gone _ (ok_caps ok (by rw [fAa.revoke_len]) o1 f1) _
theorem ok_maps {k:PK} (ok:PK.Ok k) (e pg s r:Int):PK.Ok (PK.maps k e pg s r).2:=by
 unfold PK.maps
 repeat' split
 all_goals first | exact ok | exact ok_tabs ok e fun h=>tab_insert (tab_ok ok _ h) _ _
theorem ok_protect {k:PK} (ok:PK.Ok k) (e pg r:Int):PK.Ok (PK.protect k e pg r).2:=by
 unfold PK.protect
 repeat' split
 all_goals first | exact ok | exact ok_tabs ok e fun h=>tab_protect (tab_ok ok _ h) _ _
theorem ok_remove {k:PK} (ok:PK.Ok k) (e pg:Int):PK.Ok (PK.remove k e pg).2:=ok_tabs ok e fun h=>tab_remove (tab_ok ok _ h) _
theorem ok_user {k:PK} (ok:PK.Ok k) (e:Int) (c:kl):PK.Ok (PK.user k e c).2:=by
 unfold PK.user;split
 ·exact ok
 ·exact ok_touch ok _ _
theorem ok_does {k:PK} (ok:PK.Ok k) (e:Int) (c:kl):PK.Ok (PK.does k e c).2:=by
 unfold PK.does PK.errs
 repeat' split
 all_goals first | exact ok | exact ok_alloc ok _ _ | exact ok_derive ok _ _ _ _ _ | exact ok_revoke ok _ _ _ | exact ok_maps ok _ _ _ _ | exact ok_remove ok _ _ | exact ok_protect ok _ _ _ | exact ok_user ok _ _
theorem ok_do {k:PK} (ok:PK.Ok k) (e:Int) (c:kl):PK.Ok (PK.do_ k e c).2:=by
 unfold PK.do_;split
 ·exact ok
 ·split
  ·exact ok
  ·exact ok_does ok e c
end
section
open Go Mb
theorem mid_eq (lo hi:Nat) (h:lo + hi < 2 ^ 62):i64.wrap (Int.fdiv (u64.wrap (i64.wrap ((lo:Int) + (hi:Int)))) (2 ^ (min (Int.toNat 1) (IntKind.bits .u64)))) = (((lo + hi) / 2:Nat):Int):=by
 have e0:i64.wrap ((lo:Int) + (hi:Int)) = ((lo + hi:Nat):Int):=by rw [bp (by omega) (by omega)]; rfl
 have e1:u64.wrap ((lo + hi:Nat):Int) = ((lo + hi:Nat):Int):=by
  simp only [IntKind.wrap]; first | omega | (simp [IntKind.bits,IntKind.signed]; omega)
 have e2:(2:Int) ^ (min (Int.toNat 1) (IntKind.bits .u64)) = 2:=by decide
 rw [e0,e1,e2,Int.fdiv_eq_ediv_of_nonneg _ (by decide)];have e3:((lo + hi:Nat):Int) / 2 = (((lo + hi) / 2:Nat):Int):=by omega
 rw [e3,bp (by omega) (by omega)]
structure PlaceIn (xs:List Int) (a:Int) (i:Nat):Prop where
 le:i <= xs.length
 lo:∀ k (h:k < xs.length),k < i->xs[k] < a
 hi:∀ k (h:k < xs.length),i <= k->a <= xs[k]
theorem less_eq (x y:Int):iJ x y = decide (x < y):=by
 unfold iJ;simp [dJ]
theorem sp_BinarySearch (s:Sl) (xs:List Int) (a:Int) (hb:xs.length < 2 ^ 60) (hs:∀ i j (hi:i < xs.length) (hj:j < xs.length),i < j->xs[i] <= xs[j]) :
  Sp prog fq [sv s,.int .u64 a] bQ [vU s xs] (fun r=>pa_ (∃ i,PlaceIn xs a i/\r = ((i:Int),decide (xs[i]? = some a))) [vU s xs]):=by
 intro h s0;have hl:=(bY (j:=0) s0 rfl).1;refine mE _ _ ?_;unfold hH;refine Lp.intro (fun (z:Int × Int) h=>∃ lo hi:Nat,z = ((lo:Int),(hi:Int))/\lo <= hi/\hi <= xs.length/\(∀ k (h:k < xs.length),k < lo->xs[k] < a)/\(∀ k (h:k < xs.length),hi <= k->a <= xs[k])/\ay [vU s xs] h) (fun (z:Int × Int) _=>(z.2 - z.1).toNat)
  ⟨0,xs.length,by rw [hl]; rfl,zero_le _,le_refl _,fun k h h'=>by omega,fun k h h'=>by omega,s0⟩ ?_
 rintro z h ⟨lo,hi,rfl,h1,h2,h3,h4,s1⟩;unfold eX;refine aX (fun k=>?_) (fun k=>?_)
 ·have hlt:lo < hi:=by have:=of_decide_eq_true k; simp at this; exact this
  have hm:=mid_eq lo hi (by omega);simp only [hm];have hml:(lo + hi) / 2 < xs.length:=by omega
  refine cU s1 (j:=0) rfl (by omega) (by omega) fun q hq=>?_;refine cX (j:=0) (i:=(lo + hi) / 2) (k:=0) xs[(lo + hi) / 2] (cf _) s1 rfl hq (by rw [toNat_natCast]; rfl) (aB hml) (by simp) ?_;rw [less_eq];refine aX (fun k2=>?_) (fun k2=>?_)
  ·have k2':xs[(lo + hi) / 2] < a:=by simpa using k2
   have hw:i64.wrap ((((lo + hi) / 2:Nat):Int) + 1) = (((lo + hi) / 2 + 1:Nat):Int):=by rw [bp (by omega) (by omega)]; rfl
   rw [hw];refine ⟨⟨(lo + hi) / 2 + 1,hi,rfl,by omega,h2,fun k hk hk'=>?_,h4,s1⟩,?_⟩
   ·by_cases e:k = (lo + hi) / 2
    ·subst e; exact k2'
    ·have:=hs k _ hk hml (by omega); omega
   ·show ((hi:Int) - (((lo + hi) / 2 + 1:Nat):Int)).toNat < ((hi:Int) - (lo:Int)).toNat;omega
  ·have k2':¬ xs[(lo + hi) / 2] < a:=by simpa using k2
   refine ⟨⟨lo,(lo + hi) / 2,rfl,by omega,by omega,h3,fun k hk hk'=>?_,s1⟩,?_⟩
   ·by_cases e:k = (lo + hi) / 2
    ·subst e; omega
    ·have:=hs _ k hml hk (by omega); omega
   ·show ((((lo + hi) / 2:Nat):Int) - (lo:Int)).toNat < ((hi:Int) - (lo:Int)).toNat;omega
 ·have hlt:lo = hi:=by have:=of_decide_eq_false k; simp at this; omega
  subst hlt;have hp:PlaceIn xs a lo:=⟨h2,h3,h4⟩
  refine aX (fun k2=>?_) (fun k2=>?_)
  ·have hlt:lo < xs.length:=by rw [hl] at k2; simpa using k2
   refine cU s1 (j:=0) rfl (by omega) (by show (lo:Int) < _; omega) fun q hq=>?_;refine cX (j:=0) (i:=lo) (k:=0) xs[lo] (cf _) s1 rfl hq (by simp) (aB hlt) (by simp) ?_;refine aX (fun k3=>?_) (fun k3=>?_)
   ·have k3':¬ xs[lo] = a:=by simpa using k3
    refine cX (j:=0) (i:=lo) (k:=0) xs[lo] (cf _) s1 rfl hq (by simp) (aB hlt) (by simp) ?_;exact ba ⟨lo,hp,by simp [dW,hlt,k3']⟩ s1
   ·have k3':xs[lo] = a:=by simpa using k3
    exact ba ⟨lo,hp,by simp [hlt,k3']⟩ s1
  ·have hlt:¬ lo < xs.length:=by rw [hl] at k2; simpa using k2
   exact ba ⟨lo,hp,by simp [List.getElem?_eq_none (Nat.le_of_not_lt hlt)]⟩ s1
def sub (m:Nat) (s:Sl) (lo hi:Nat):Sl:=⟨if s.cap = lo then s.a else s.a.map (fun q=>(q.1,q.2 + lo * m)),hi - lo,s.cap - lo,none⟩
theorem pa_map (p:Ptr) (n:Nat):(pa p).map (·.add n) = pa (p.map fun q=>(q.1,q.2 + n)):=by
 cases p with
 | none=>rfl
 | some q=>simp [pa,add_plain]
theorem slice_raw {P:Program} {h:Hp} {S T m bys:Nat} {z:List Value} {s:Sl} {lo hi:Nat} {vlo vhi:Option Value} {R:Sl->Value} {K:Sl->Hp->Prop} (E:El P S T m bys z) (hR:R = sv)
  (hlo:vlo = some (.int .i64 lo)\/vlo = none/\lo = 0) (hhi:vhi = some (.int .i64 hi)\/vhi = none/\hi = s.len) (h1:lo <= hi) (h2:hi <= s.cap) (k:K (sub m s lo hi) h):hpv P (Instr.sliceAt S (sv s) vlo vhi none) R K h:=by
 subst hR;refine ⟨?_⟩;obtain ⟨inf,hinf,e1,e2,e3⟩:=E.inf;unfold Instr.sliceAt;refine cx (dD E.sl ?_);show hp P (Instr.slice S (sv s) _ _ _) _ _;unfold Instr.slice;refine cx (dD E.sl ?_);simp only [sv];refine cx ?_;unfold Instr.sliceBounds;have fin:∀ hh:Hp,hh = h->hp P (do let size ← sizeOf T; pure (Value.slice (if s.cap = lo then pa s.a else (pa s.a).map (·.add (lo * size))) (hi - lo) (s.cap - lo))) (fun v h'=>∃ r,v = sv r/\K r h') hh:=by
  rintro _ rfl;refine cx (oL hinf ?_);rw [e1];refine ⟨sub m s lo hi,?_,k⟩;unfold sub sv;split
  ·rfl
  ·rw [pa_map]
 rcases hhi with rfl | ⟨rfl,rfl⟩
 ·refine cx (cx (cx ?_));unfold Instr.sliceBound;refine cx (tY ?_);refine hp_yes ⟨by omega,by omega⟩ ?_;rcases hlo with rfl | ⟨rfl,rfl⟩
  ·refine cx (cx (tY ?_));refine hp_yes ⟨by omega,by omega⟩ ?_;exact fin h rfl
  ·exact fin h rfl
 ·refine cx (cx ?_);rcases hlo with rfl | ⟨rfl,rfl⟩
  ·refine cx ?_;unfold Instr.sliceBound;refine cx (tY ?_);refine hp_yes ⟨by omega,by omega⟩ ?_;exact fin h rfl
  ·exact fin h rfl
end
section
open Go Mb
def sh_mail_Mail_is (a0:Ptr) (a1:Int) (K:kT Bool):hT:=br ((!a0.isNone) && (decide (a1 >= 0))) ( nn a0 fun q14=>ld (q14.1,q14.2 + 0) cS fun x16=>K (decide (a1 < (x16.len:Int)))) ( K false)
theorem sim_mail_Mail_is (a0:Ptr) (a1:Int) {K:kT Bool} {h:Hp} (H:sh_mail_Mail_is a0 a1 K h):cl prog mf [(pv a0),(.int .i64 a1)] aD K h:=z_i func111 p p fun _=>O<|U p<|O<|M p<|J (v_pneT underlying74 p)<|M p<|W p p (aA _) (fun g1=>wv<|ag p)<|W p p (aA _) (fun g2=>wv<|iE (aC p g2) p)<|J (bN p p)<|M p<|W p p (aA _) (fun g3=>wv<|ag p)<|W p p (aA _) (fun g4=>wv<|ag p)<|bS H (fun k6 H7=>bL H7 fun q14 e8 H9=>z_O (Z k6)<|z_p (aP<|aJ (aC p k6)<|au e8)<|z_O (Z k6)<|z_p (ae mT p)<|z_O (Z k6)<|aY H9 lO p (fun _=>p) p fun x16 H10=>z_O (Z k6)<|z_p (dh p underlying107 p)<|z_O (Z k6)<|z_p (bZ (aC p k6) p)<|J (aI p k6 p)<|U p<|ah<|F ⟨decide (a1 < (x16.len:Int)),p,H10⟩) fun k6 H7=>Y (ax k6)<|Y (ax k6)<|Y (ax k6)<|Y (ax k6)<|Y (ax k6)<|J (ap p k6 p)<|U p<|ah<|F ⟨false,p,H7⟩
def tA (a0:Ptr) (a1:Int) (K:kT Int):hT:=cl prog mf [(pv a0),(.int .i64 a1)] aD fun r7=>br (!r7) ( K 0) ( nn a0 fun q10=>ld (q10.1,q10.2 + 0) cS fun x12=>ix x12 a1 fun q14=>ld (q14.1,q14.2 + Int.toNat a1 * 1) cS fun x15=>K (x15.len:Int))
theorem sim_mail_Mail_Waits (a0:Ptr) (a1:Int) {K:kT Int} {h:Hp} (H:tA a0 a1 K h):cl prog lG [(pv a0),(.int .i64 a1)] eN K h:=z_i func65 p p fun _=>O<|U p<|ai<|O<|M p<|M p<|aa<|G H en_111 fun r7 _ H1=>J (cw p)<|ad<|av p H1 (fun k2 H3=>O<|U p<|ah<|F ⟨0,p,H3⟩) fun k2 H3=>ak<|O<|M p<|bL H3 fun q10 e4 H5=>J (aP<|aJ p<|au e4)<|J (ae mT p)<|aa<|aY H5 lO p (fun _=>p) p fun x12 H6=>M p<|cm H6 fun q14 e7 h8 H9=>J (aW mD (aJ p<|aM e7) p h8)<|aa<|aY H9 rQ p (fun _=>p) p fun x15 H10=>J (dh p underlying106 p)<|U p<|ah<|F ⟨(x15.len:Int),p,H10⟩
def uH (a0:Ptr) (a1:Int) (K:kT (Int × Bool)):hT:=cl prog lG [(pv a0),(.int .i64 a1)] eN fun r9=>br (r9 == 0) ( K (0,false)) ( nn a0 fun q12=>ld (q12.1,q12.2 + 0) cS fun x14=>ix x14 a1 fun q16=>ld (q16.1,q16.2 + Int.toNat a1 * 1) cS fun x17=>ix x17 0 fun q18=>ld (q18.1,q18.2 + Int.toNat 0 * 1) (cI .u64) fun x19=>ld (q12.1,q12.2 + 0) cS fun x28=>ix x28 a1 fun q30=>ld (q30.1,q30.2 + Int.toNat a1 * 1) cS fun x31=>mV ( ld (q12.1,q12.2 + 0) cS fun x23=>hpv prog (Instr.sliceAt bi (sv x31) (some (.int .i64 1)) none none) ck fun (v32:Sl)=>ix x23 a1 fun q33=>st (q33.1,q33.2 + Int.toNat a1 * 1) [sv v32]<|K (x19,true)) ( hpv prog (Instr.sliceAt bi (sv x31) (some (.int .i64 1)) none none) ck fun (v32:Sl)=>ld (q12.1,q12.2 + 0) cS fun x23=>ix x23 a1 fun q33=>st (q33.1,q33.2 + Int.toNat a1 * 1) [sv v32]<|K (x19,true)))
theorem sim_mail_Mail_Take (a0:Ptr) (a1:Int) {K:kT (Int × Bool)} {h:Hp} (H:uH a0 a1 K h):cl prog mL [(pv a0),(.int .i64 a1)] bP K h:=z_i func41 p p fun _=>O<|J (ar p)<|U p<|ai<|O<|M p<|M p<|aa<|G H en_65 fun r9 _ H1=>J (bM p p)<|ad<|av p H1 (fun k2 H3=>O<|J (ar p)<|U p<|ah<|bE (bW p (cj p)<|cj p) ⟨(0,false),p,H3⟩) fun k2 H3=>ak<|O<|M p<|bL H3 fun q12 e4 H5=>J (aP<|aJ p<|au e4)<|J (ae mT p)<|aa<|aY H5 lO p (fun _=>p) p fun x14 H6=>M p<|cm H6 fun q16 e7 h8 H9=>J (aW mD (aJ p<|aM e7) p h8)<|aa<|aY H9 rQ p (fun _=>p) p fun x17 H10=>cm H10 fun q18 e11 h12 H13=>J (aW sQ (aJ p<|aM e11) p h12)<|aa<|aY H13 cC p (fun _=>p) p fun x19 H14=>U p<|ai<|bk (n:=15) [] ch p .slnil<|V 0 p (ag<|aJ p<|au e4)<|V 1 p (aP p)<|V 2 p (ae mT p)<|V 4 p (ag p)<|V 5 p (ag<|aJ p<|au e4)<|V 6 p (aP p)<|V 7 p (ae mT p)<|V 9 p (ag p)<|bw (i:=8) (fun _ _ _ _ hh=>hh) H14 p (by kernel_rfl) lO p (fun _=>p) p fun x28 H15=>dl H15 fun q30 e16 h17 H18=>V 10 p (aW mD (aJ p<|aM e16) p h17)<|bw (i:=11) (fun _ _ _ _ hh=>hh) H18 p (by kernel_rfl) rQ p (fun _=>p) p fun x31 H19=>dm H19 fun H20_1 H20_2=>fJ (i:=3) (j:=12) (by kernel_rfl) (bF p p<|aY H20_1 lO p (fun _=>p) p fun x23 H21=>⟨.slnil,R 12 p<|aF H21 (cT p p p p p) p fun v32 _ H22=>⟨.slnil,dl H22 fun q33 e23 h24 H25=>V 13 p (aW mD (aJ p<|aM e23) p h24)<|R 14 p<|dx inf_106 p p p p p H25 fun _ H26=>⟨.slnil,aG (by kernel_rfl)<|O<|M p<|J (ar p)<|U p<|ah<|bE (bW p (cj p)<|cj p) ⟨(x19,true),p,H26⟩⟩⟩⟩)<|bF p p<|aF H20_2 (cT p p p p p) p fun v32 _ H21=>⟨.slnil,bw (i:=3) (fun _ _ _ _ hh=>hh) H21 p (by kernel_rfl) lO p (fun _=>p) p fun x23 H22=>dl H22 fun q33 e23 h24 H25=>V 13 p (aW mD (aJ p<|aM e23) p h24)<|R 14 p<|dx inf_106 p p p p p H25 fun _ H26=>⟨.slnil,aG (by kernel_rfl)<|O<|M p<|J (ar p)<|U p<|ah<|bE (bW p (cj p)<|cj p) ⟨(x19,true),p,H26⟩⟩⟩
def uI (a0:Ptr) (a1:Int) (a2:Int) (a3:Int) (K:kT Bool):hT:=cl prog mf [(pv a0),(.int .i64 a1)] aD fun r13=>br (!(!r13)) ( cl prog mf [(pv a0),(.int .i64 a2)] aD fun r18=>br ((!r18) || (a1 == a2)) ( K false) ( nn a0 fun q28=>ld (q28.1,q28.2 + 0) cS fun x30=>ix x30 a2 fun q32=>ld (q32.1,q32.2 + Int.toNat a2 * 1) cS fun x33=>cl prog fq [(sv x33),(.int .u64 a3)] bQ fun r35=>br (!r35.2) ( ld (q28.1,q28.2 + 0) cS fun x48=>ix x48 a2 fun q50=>ld (q50.1,q50.2 + Int.toNat a2 * 1) cS fun x51=>mV ( ld (q28.1,q28.2 + 0) cS fun x43=>hpv prog (Instr.buildSlice bi 1 #[(0,(.int .u64 a3))]) ck fun (v54:Sl)=>cl prog dT [(sv x51),(.int .i64 r35.1),(sv v54)] ck fun r55=>ix x43 a2 fun q56=>st (q56.1,q56.2 + Int.toNat a2 * 1) [sv r55]<|K true) ( hpv prog (Instr.buildSlice bi 1 #[(0,(.int .u64 a3))]) ck fun (v54:Sl)=>mV ( ld (q28.1,q28.2 + 0) cS fun x43=>cl prog dT [(sv x51),(.int .i64 r35.1),(sv v54)] ck fun r55=>ix x43 a2 fun q56=>st (q56.1,q56.2 + Int.toNat a2 * 1) [sv r55]<|K true) ( cl prog dT [(sv x51),(.int .i64 r35.1),(sv v54)] ck fun r55=>ld (q28.1,q28.2 + 0) cS fun x43=>ix x43 a2 fun q56=>st (q56.1,q56.2 + Int.toNat a2 * 1) [sv r55]<|K true))) ( K true))) ( K false)
theorem sim_mail_Mail_Send (a0:Ptr) (a1:Int) (a2:Int) (a3:Int) {K:kT Bool} {h:Hp} (H:uI a0 a1 a2 a3 K h):cl prog qL [(pv a0),(.int .i64 a1),(.int .i64 a2),(.int .u64 a3)] aD K h:=z_i func79 p p fun _=>O<|U p<|ai<|O<|M p<|M p<|aa<|G H en_111 fun r13 _ H1=>J (cw p)<|M p<|W p p (aL _) (fun g2=>wv<|ag p)<|W p p (aL _) (fun g3=>wv<|ag p)<|bS H1 (fun k5 H6=>z_O (Z<|cg k5)<|gz H6 en_111 (aZ (aC p k5)<|aZ (aC p k5) bX) p fun r18 _ H7=>z_O (Z<|cg k5)<|z_p (cw p)<|J (ap p (cg k5) p)<|M p<|W p p (aL _) (fun g8=>wv<|ag p)<|W p p (aL _) (fun g9=>wv<|ag p)<|W p p (aL _) (fun g10=>wv<|bM (aC p g10)<|aC p g10)<|J (dy p p)<|ad<|av p H7 (fun k11 H12=>O<|U p<|ah<|F ⟨false,p,H12⟩) fun k11 H12=>ak<|ai<|O<|M p<|bL H12 fun q28 e13 H14=>J (aP<|aJ p<|au e13)<|J (ae mT p)<|aa<|aY H14 lO p (fun _=>p) p fun x30 H15=>M p<|cm H15 fun q32 e16 h17 H18=>J (aW mD (aJ p<|aM e16) p h17)<|aa<|aY H18 rQ p (fun _=>p) p fun x33 H19=>M p<|aa<|G H19 en_129 fun r35 _ H20=>M p<|J (aj p p)<|J (aj p p)<|J (ar p)<|U p<|O<|M p<|J (cw p)<|ad<|av p H20 (fun k21 H22=>bk (n:=18) [] ch p .slnil<|V 0 p (ag<|aJ p<|au e13)<|V 1 p (aP p)<|V 2 p (ae mT p)<|V 4 p (ag p)<|V 5 p (ag<|aJ p<|au e13)<|V 6 p (aP p)<|V 7 p (ae mT p)<|V 9 p (ag p)<|V 12 p (ag p)<|V 13 p (ag p)<|bw (i:=8) (fun _ _ _ _ hh=>hh) H22 p (by kernel_rfl) lO p (fun _=>p) p fun x48 H23=>dl H23 fun q50 e24 h25 H26=>V 10 p (aW mD (aJ p<|aM e24) p h25)<|bw (i:=11) (fun _ _ _ _ hh=>hh) H26 p (by kernel_rfl) rQ p (fun _=>p) p fun x51 H27=>dm H27 fun H28_1 H28_2=>fJ (i:=3) (j:=14) (by kernel_rfl) (bF p p<|aY H28_1 lO p (fun _=>p) p fun x43 H29=>⟨.slnil,R 14 p<|aF H29 (bh (vs:=[(.int .u64 a3)]) p) p fun v54 _ H30=>⟨.slnil,R 15 p<|G H30 en_130 fun r55 _ H31=>⟨.slnil,dl H31 fun q56 e32 h33 H34=>V 16 p (aW mD (aJ p<|aM e32) p h33)<|R 17 p<|dx inf_106 p p p p p H34 fun _ H35=>⟨.slnil,aG (by kernel_rfl)<|O<|U p<|ah<|F ⟨true,p,H35⟩⟩⟩⟩⟩)<|bF p p<|aF H28_2 (bh (vs:=[(.int .u64 a3)]) p) p fun v54 _ H29=>⟨.slnil,dm H29 fun H30_1 H30_2=>fJ (i:=3) (j:=15) (by kernel_rfl) (bF p p<|aY H30_1 lO p (fun _=>p) p fun x43 H31=>⟨.slnil,R 15 p<|G H31 en_130 fun r55 _ H32=>⟨.slnil,dl H32 fun q56 e33 h34 H35=>V 16 p (aW mD (aJ p<|aM e33) p h34)<|R 17 p<|dx inf_106 p p p p p H35 fun _ H36=>⟨.slnil,aG (by kernel_rfl)<|O<|U p<|ah<|F ⟨true,p,H36⟩⟩⟩⟩)<|bF p p<|G H30_2 en_130 fun r55 _ H31=>⟨.slnil,bw (i:=3) (fun _ _ _ _ hh=>hh) H31 p (by kernel_rfl) lO p (fun _=>p) p fun x43 H32=>dl H32 fun q56 e33 h34 H35=>V 16 p (aW mD (aJ p<|aM e33) p h34)<|R 17 p<|dx inf_106 p p p p p H35 fun _ H36=>⟨.slnil,aG (by kernel_rfl)<|O<|U p<|ah<|F ⟨true,p,H36⟩⟩⟩⟩) fun k21 H22=>ak<|O<|U p<|ah<|F ⟨true,p,H22⟩) fun k5 H6=>Y (be<|bG k5)<|Y (be<|bG k5)<|J (aI p (bG k5) p)<|M p<|Y p<|Y p<|Y p<|J (aI p p p)<|ad<|gc p p<|O<|U p<|ah<|F ⟨false,p,H6⟩
def qQ (a1:Int) (a2:Int) (K:kT Int) (q12:Nat × Nat) (x14:Sl) (Rec7:kT (Int × Int)) (s6:Int × Int):hT:=br (decide (s6.2 < (x14.len:Int))) ( cl prog qL [(.pointer (some ⟨q12.1,q12.2,none⟩)),(.int .i64 a1),(.int .i64 s6.2),(.int .u64 a2)] aD fun r23=>br r23 ( Rec7 ((i64.wrap (s6.1 + 1)),(i64.wrap (s6.2 + 1)))) ( Rec7 (s6.1,(i64.wrap (s6.2 + 1))))) ( K s6.1)
def wu (a0:Ptr) (a1:Int) (a2:Int) (K:kT Int):hT:=br a0.isNone ( K 0) ( nn a0 fun q12=>ld (q12.1,q12.2 + 0) cS fun x14=>Lp (qQ a1 a2 K q12 x14) (0,0))
theorem sim_mail_Mail_All (a0:Ptr) (a1:Int) (a2:Int) {K:kT Int} {h:Hp} (H:wu a0 a1 a2 K h):cl prog nO [(pv a0),(.int .i64 a1),(.int .u64 a2)] eN K h:=z_i func50 p p fun _=>O<|U p<|ai<|O<|M p<|J (cy underlying74 p)<|ad<|av p H (fun k1 H2=>O<|U p<|ah<|F ⟨0,p,H2⟩) fun k1 H2=>ak<|O<|U p<|ai<|O<|M p<|bL H2 fun q12 e3 H4=>J (aP<|aJ p<|au e3)<|J (ae mT p)<|aa<|aY H4 lO p (fun _=>p) p fun x14 H5=>J (dh p underlying107 p)<|M p<|ad<|aw<|bv (step:=qQ a1 a2 K q12 x14) (fun s6=>[(0,(pv a0)),(1,(.int .i64 a1)),(2,(.int .u64 a2)),(7,(.int .i64 s6.1)),(15,(.int .i64 (x14.len:Int))),(16,(.int .i64 s6.2))]) (fun s6=>[]) H5 (.cons p<|.cons p<|.cons p<|.cons p<|.cons p<|.cons p<|.nil _) .slnil fun Rec7 s6 _ H8=>O<|J (bZ p p)<|ad<|ai<|av p H8 (fun k9 H10=>ak<|ai<|aw<|O<|M p<|U p<|O<|M (aJ p<|au e3)<|M p<|M p<|M p<|aa<|G H10 en_79 fun r23 _ H11=>ad<|av p H11 (fun k12 H13=>am<|M p<|J (bb p p)<|U p<|am<|J (bb p p)<|M p<|ad<|bU ((i64.wrap (s6.1 + 1)),(i64.wrap (s6.2 + 1))) H13 (.cons p<|.cons p<|.cons p<|.cons p<|.cons p<|.cons p<|.nil _) .slnil) fun k12 H13=>ak<|am<|J (bb p p)<|M p<|ad<|bU (s6.1,(i64.wrap (s6.2 + 1))) H13 (.cons p<|.cons p<|.cons p<|.cons p<|.cons p<|.cons p<|.nil _) .slnil) fun k9 H10=>bf<|O<|M p<|U p<|ah<|F ⟨s6.1,p,H10⟩
def sh_mail_New (a0:Int) (K:kT Ptr):hT:=br ((decide (a0 < 1)) || (decide (a0 > 8))) ( K none) ( hpv prog (Instr.makeSlice qD (.int .i64 a0) (.int .i64 a0)) R_SSuint64 fun (v10:Sl)=>nw lM (oR.C (⟨v10⟩:oR)) fun b12=>K (some (b12,0)))
theorem sim_mail_New (a0:Int) {K:kT Ptr} {h:Hp} (H:sh_mail_New a0 K h):cl prog tS [(.int .i64 a0)] pX K h:=z_i func57 p p fun _=>O<|U p<|ai<|O<|M p<|J (bZ p p)<|M p<|W p p (aL _) (fun g1=>wv<|ag p)<|W p p (aL _) (fun g2=>wv<|hG (aC p g2) p)<|J (dy p p)<|ad<|av p H (fun k3 H4=>O<|U p<|ah<|F ⟨none,p,H4⟩) fun k3 H4=>ak<|O<|M p<|aa<|aF H4 (km p p) p fun v10 _ H5=>J (bg p<|build_109_0 v10)<|aa<|iF p p p H5 fun b12 _ H6=>U p<|ah<|F ⟨some (b12,0),p,H6⟩
end
section
open Go Mb
theorem vy (s y:Sl) (xs:List Int) (a:Int) (hl:xs.length < 2 ^ 40) :
  Sp prog dT [sv s,.int .i64 xs.length,sv y] ck [vU s xs,vU y [a]] (fun r=>vU r (xs++[a])):=by
 intro h s0;have hs:=(bY (j:=0) s0 rfl).1;have hy:=(bY (j:=1) s0 rfl).1;have hcap:s.len <= s.cap:=star_fact (i:=0) rfl (fun _ hv=>hv.2.1) s0;refine qb _ _ _ ?_;unfold jT;refine slice_raw (lo:=xs.length) (hi:=s.len) gr rfl (.inl rfl) (.inr ⟨rfl,rfl⟩) (by omega) hcap ?_;refine dN (by rw [hy]; rfl) ?_;refine eG (by rw [hs]; simp) ?_;refine rK (τ:=Int) (i:=0) (j:=1) (enc:=cI .u64) (ys:=[a]) gr gr.sl (cf _) (oneI _) s0 rfl rfl (by omega) (by simp; omega) (by simp; omega) fun v h2 s2=>?_;obtain ⟨h3,h4,d,rfl,a2,_⟩:=s2;obtain ⟨e1,e2,e3⟩:=a2;refine ⟨e1,e2,?_⟩;rcases e3 with e3 | ⟨b,pre,rest,U,fr,f1,f2,fg,f3⟩
 ·exact .inl e3
 ·exact .inr ⟨b,pre,rest,U,fr,f1,f2,fg,un_left f3⟩
def jF (x:Ptr) (bs:List (List Int)):As:=fun h=>∃ z:Nat × Sl × List Sl,(x = some (z.1,0)/\z.2.2.length = bs.length/\bs.length <= 8)/\ay [blk z.1 lM [sv z.2.1],vec bi 1 cS z.2.1 z.2.2,all vU z.2.2 bs] h
theorem mail_op {x:Ptr} {bs:List (List Int)} {l:List As} {h:Hp} (s0:ay (jF x bs::l) h):∃ b s ss,x = some (b,0)/\ss.length = bs.length/\bs.length <= 8/\s.len = bs.length/\ay (blk b lM [sv s]::vec bi 1 cS s ss::all vU ss bs::l) h:=by
 obtain ⟨⟨b,s,ss⟩,⟨hx,h1,h2⟩,st⟩:=op_ s0;exact ⟨b,s,ss,hx,h1,h2,(bY (j:=1) st rfl).1.trans h1,st⟩
theorem mail_cl {b:Nat} {s:Sl} {ss:List Sl} {bs:List (List Int)} {l:List As} {h:Hp} (h1:ss.length = bs.length) (h2:bs.length <= 8) (st:ay (blk b lM [sv s]::vec bi 1 cS s ss::all vU ss bs::l) h):ay (jF (some (b,0)) bs::l) h :=
 cl_ (m:=fun z:Nat × Sl × List Sl=>[blk z.1 lM [sv z.2.1],vec bi 1 cS z.2.1 z.2.2,all vU z.2.2 bs]) (b,s,ss) ⟨rfl,h1,h2⟩ st
namespace Mail
abbrev S:=List (List Int)
def has (bs:S) (c:Int):Bool:=decide (0 <= c/\c < bs.length)
def box (bs:S) (c:Int):List Int:=bs.getD c.toNat []
def send (bs:S) (f t e:Int):Bool × S:=if has bs f = true/\has bs t = true/\f ≠ t then (true,bs.set t.toNat (box bs t++[e])) else (false,bs)
def sends (bs:S) (f e:Int):Nat->Int × S
 | 0=>(0,bs)
 | n + 1=>if (send (sends bs f e n).2 f n e).1 then ((sends bs f e n).1 + 1,(send (sends bs f e n).2 f n e).2) else ((sends bs f e n).1,(send (sends bs f e n).2 f n e).2)
def waits (bs:S) (c:Int):Int:=if has bs c then (box bs c).length else 0
def take (bs:S) (c:Int):(Int × Bool) × S:=if waits bs c = 0 then ((0,false),bs) else (((box bs c).getD 0 0,true),bs.set c.toNat ((box bs c).drop 1))
structure Fit (l:List Int) (e:Int):Prop where
 lt:∀ x ∈ l,x < e
 up:l.Pairwise (· < ·)
 len:l.length < 2 ^ 40
theorem send_len (bs:S) (f t e:Int):(send bs f t e).2.length = bs.length:=by unfold send; split <;> simp
theorem sends_len (bs:S) (f e:Int):∀ n,(sends bs f e n).2.length = bs.length
 | 0=>rfl
 | n + 1=>by unfold sends; split <;> simp only [send_len,sends_len bs f e n]
theorem send_other (bs:S) (f e:Int) (n m:Nat) (h:n ≠ m):(send bs f n e).2[m]? = bs[m]?:=by
 unfold send; split
 ·simp only [toNat_natCast]; rw [List.getElem?_set_ne h]
 ·rfl
theorem sends_ge (bs:S) (f e:Int):∀ n m,n <= m->(sends bs f e n).2[m]? = bs[m]?
 | 0,_,_=>rfl
 | n + 1,m,h=>by unfold sends; split <;> simp only <;> rw [send_other _ _ _ _ _ (by omega),sends_ge bs f e n m (by omega)]
end Mail
theorem nils:∀ (n:Nat) {l:List As} {h:Hp},ay l h->ay (all vU (replicate n (⟨none,0,0,none⟩:Sl)) (replicate n ([]:List Int))::l) h
 | 0,_,_,s=>all_nil s
 | n + 1,l,h,s=>by
  have s1:=fu (τ:=Int) (T:=t_uint64) (m:=1) (enc:=cI .u64) (nils n s);rw [List.replicate_succ,List.replicate_succ];obtain ⟨h1,h2,d,e,a,h3,h4,d2,e2,b,s'⟩:=s1;subst e2;obtain ⟨d3,d4⟩:=Dj.of_un_right d;exact ⟨un h1 h3,h4,Dj.un_left d4 d2,by rw [e,nq],⟨h1,h3,d3,rfl,a,b⟩,s'⟩
theorem sp_mail_New (n:Int) (h1:¬ n < 1) (h2:¬ n > 8):Sp prog tS [.int .i64 n] pX [] (fun r=>ay [jF r (replicate n.toNat [])]):=by
 intro h st;refine sim_mail_New _ ?_;unfold sh_mail_New;obtain ⟨m,rfl⟩:=Int.eq_ofNat_of_zero_le (show 0 <= n by omega);refine dN (by simp; omega) ?_;refine oJ (τ:=Sl) (x0:=⟨none,0,0,none⟩) (enc:=cS) (n:=m) (T:=bi) (m:=1) vp rfl st ?_ ?_ ?_
 ·omega
 ·omega
 ·intro v h' s1;have s2:=nils m s1;refine pC s2 fun b h'' s3=>?_;exact mail_cl (by simp) (by simp; omega) (bd [0,1] s3 rfl)
theorem sp_mail_is (x:Ptr) (bs:Mail.S) (c:Int):Sp prog mf [pv x,.int .i64 c] aD [jF x bs] (fun r=>pa_ (r = Mail.has bs c) [jF x bs]):=by
 intro h s0;obtain ⟨b,s,ss,rfl,hss,hb,hs,st⟩:=mail_op s0;refine sim_mail_Mail_is _ _ ?_;unfold sh_mail_Mail_is;refine aX (fun k=>?_) (fun k=>?_)
 ·have k':0 <= c:=by simpa using k
  refine cL (bt s st (i:=0) rfl rfl rfl ?_);exact ba (by simp [Mail.has,k',hs]) s0
 ·have k':¬ 0 <= c:=by simpa using k
  exact ba (by simp [Mail.has]; intro h; exact absurd h k') s0
theorem has_nat {bs:Mail.S} {c:Int} (h:Mail.has bs c = true):∃ n:Nat,c = n/\n < bs.length:=by
 unfold Mail.has at h;have:=of_decide_eq_true h;exact ⟨c.toNat,by omega,by omega⟩
theorem place_end {l:List Int} {e:Int} (f:Mail.Fit l e) {i:Nat} (p:PlaceIn l e i):i = l.length:=by
 rcases Nat.lt_or_ge i l.length with h | h
 ·have h1:=p.hi i h (le_refl _);have h2:=f.lt _ (getElem_mem h);omega
 ·have:=p.le; omega
theorem sp_mail_Send (x:Ptr) (bs:Mail.S) (f t e:Int) (hf:∀ l,bs[t.toNat]? = some l->Mail.Fit l e):Sp prog qL [pv x,.int .i64 f,.int .i64 t,.int .u64 e] aD [jF x bs] (fun r=>pa_ (r = (Mail.send bs f t e).1) [jF x (Mail.send bs f t e).2]):=by
 intro h s0;refine sim_mail_Mail_Send _ _ _ _ ?_;unfold uI;refine cW [0] (sp_mail_is x bs f) s0 rfl fun r h1 s1=>?_;obtain ⟨rfl,s2⟩:=bA.1 s1;have no:¬ (Mail.has bs f = true/\Mail.has bs t = true/\f ≠ t)->Mail.send bs f t e = (false,bs):=fun hh=>if_neg hh;refine aX (fun k=>?_) (fun k=>?_)
 ·have k':Mail.has bs f = true:=by simpa using k
  refine cW [0] (sp_mail_is x bs t) s2 rfl fun r h3 s3=>?_;obtain ⟨rfl,s4⟩:=bA.1 s3;refine aX (fun k2=>?_) (fun k2=>?_)
  ·rw [no (by simp at k2; intro hh; rcases k2 with k2 | k2; exact absurd hh.2.1 (by simp [k2]); exact hh.2.2 k2)];exact ba rfl s4
  ·have k2':Mail.has bs t = true/\f ≠ t:=by simpa using k2
   obtain ⟨n,rfl,hn⟩:=has_nat k2'.1;have ed:Mail.send bs f n e = (true,bs.set n (Mail.box bs n++[e])):=if_pos ⟨k',k2'.1,k2'.2⟩;rw [ed];obtain ⟨b,s,ss,rfl,hss,hb,hs,st⟩:=mail_op s4;have hns:n < ss.length:=by omega
   have hg:Mail.box bs n = bs[n]:=by simp [Mail.box,hn]
   have fit:=hf bs[n] (by rw [toNat_natCast]; exact aB hn);refine cL (bt s st (i:=0) rfl rfl rfl ?_);refine cU st (j:=1) rfl (by omega) (by omega) fun q hq=>?_;refine cX (j:=1) (i:=n) (k:=0) ss[n] sc st rfl hq (by simp) (aB hns) (by simp) ?_;have st1:=jM (aB hns) (aB hn) (bd [2] st rfl);refine cW [0] (sp_BinarySearch ss[n] bs[n] e (by have:=fit.len; omega) (fun i j hi hj hij=>Int.le_of_lt (List.pairwise_iff_getElem.1 fit.up i j hi hj hij))) st1 rfl fun r h5 s5=>?_;obtain ⟨⟨i,pi,hr⟩,s6⟩:=bA.1 s5;have hi:=place_end fit pi;subst hi;have hr2:r.2 = false:=by rw [hr]; simp
   refine eG (by rw [hr2]; rfl) ?_;refine bt s s6 (i:=2) rfl rfl rfl ?_;refine cU s6 (j:=3) rfl (by omega) (by omega) fun q2 hq2=>?_;refine cX (j:=3) (i:=n) (k:=0) ss[n] sc s6 rfl hq2 (by simp) (aB hns) (by simp) ?_;have fin:∀ (r55:Sl) (v54:Sl) (h:Hp),ay [vU r55 (bs[n]++[e]),but vU ss bs n,blk b lM [sv s],vec bi 1 cS s ss] h ->
     ix s n (fun q56=>Mb.st (q56.1,q56.2 + Int.toNat n * 1) [sv r55]<|pa_ (true = true) [jF (some (b,0)) (bs.set n (bs[n]++[e]))]) h:=by
    intro r55 v54 h s7;refine cU s7 (j:=3) rfl (by omega) (by omega) fun q3 hq3=>?_;refine uq (j:=3) (i:=n) (k:=0) r55 sc s7 rfl hq3 (by simp) (aB hns) (by simp) rfl fun h8 s8=>?_;have s9:=all_in2 (y:=bs[n]++[e]) hn hss s8;exact ba rfl (mail_cl (by simpa using hss) (by simpa using hb) (bd [1,1] s9 rfl))
   rw [hg,hr];refine ⟨?_,?_⟩
   ·refine bt s s6 (i:=2) rfl rfl rfl ?_;refine fy (τ:=Int) [e] (val:=fun x=>.int .u64 x) (enc:=cI .u64) gr (cf _) (fun _=>rfl) s6 rfl rfl (by simp) fun y h' s7=>?_;refine cW [1,0] (vy ss[n] y bs[n] e fit.len) s7 rfl fun r h8 s8=>?_;exact fin r y h8 s8
   ·refine fy (τ:=Int) [e] (val:=fun x=>.int .u64 x) (enc:=cI .u64) gr (cf _) (fun _=>rfl) s6 rfl rfl (by simp) fun y h' s7=>?_;refine ⟨?_,?_⟩
    ·refine bt s s7 (i:=3) rfl rfl rfl ?_;refine cW [1,0] (vy ss[n] y bs[n] e fit.len) s7 rfl fun r h8 s8=>?_;exact fin r y h8 s8
    ·refine cW [1,0] (vy ss[n] y bs[n] e fit.len) s7 rfl fun r h8 s8=>?_;refine bt s s8 (i:=2) rfl rfl rfl ?_;exact fin r y h8 s8
 ·rw [no (by simp at k; simp [k])];exact ba rfl s2
theorem sp_mail_All (x:Ptr) (bs:Mail.S) (f e:Int) (hf:∀ l ∈ bs,Mail.Fit l e):Sp prog nO [pv x,.int .i64 f,.int .u64 e] eN [jF x bs] (fun r=>pa_ (r = (Mail.sends bs f e bs.length).1) [jF x (Mail.sends bs f e bs.length).2]):=by
 intro h s0;obtain ⟨b,s,ss,rfl,hss,hb,hs,st⟩:=mail_op s0;refine sim_mail_Mail_All _ _ _ ?_;unfold wu;refine dN rfl (cL (bt s st (i:=0) rfl rfl rfl ?_));refine Lp.intro (fun (z:Int × Int) h=>∃ n:Nat,z.2 = n/\n <= bs.length/\z.1 = (Mail.sends bs f e n).1/\0 <= z.1/\z.1 <= n/\ay [jF (some (b,0)) (Mail.sends bs f e n).2] h) (fun (z:Int × Int) _=>bs.length - z.2.toNat) ⟨0,rfl,zero_le _,rfl,Int.le_refl _,Int.le_refl _,s0⟩ ?_;rintro ⟨z,i⟩ h ⟨n,rfl,hn,hz,hz0,hz1,s1⟩;simp only at hz hz0 hz1;unfold qQ;refine aX (fun k=>?_) (fun k=>?_)
 ·have hlt:n < bs.length:=by rw [hs] at k; simpa using k
  have hw:i64.wrap ((n:Int) + 1) = ((n + 1:Nat):Int):=by rw [bp (by omega) (by omega)]; rfl
  have hw2:i64.wrap (z + 1) = z + 1:=bp (by omega) (by omega);refine cW [0] (sp_mail_Send (some (b,0)) (Mail.sends bs f e n).2 f n e ?_) s1 rfl fun r h2 s2=>?_
  ·intro l hl;rw [toNat_natCast,Mail.sends_ge bs f e n n (le_refl _)] at hl;exact hf l (List.mem_of_getElem? hl)
  obtain ⟨rfl,s3⟩:=bA.1 s2;refine aX (fun k2=>?_) (fun k2=>?_)
  ·have e1:Mail.sends bs f e (n + 1) = ((Mail.sends bs f e n).1 + 1,(Mail.send (Mail.sends bs f e n).2 f n e).2):=by rw [Mail.sends,if_pos k2]
   rw [hw,hw2];refine ⟨⟨n + 1,rfl,hlt,?_,by simp only; omega,by simp only; omega,?_⟩,by simp; omega⟩
   ·rw [e1,hz]
   ·rw [e1]; exact s3
  ·have e1:Mail.sends bs f e (n + 1) = ((Mail.sends bs f e n).1,(Mail.send (Mail.sends bs f e n).2 f n e).2):=by rw [Mail.sends,if_neg (by rw [k2]; exact Bool.false_ne_true)]
   rw [hw];refine ⟨⟨n + 1,rfl,hlt,?_,by simp only; omega,by simp only; omega,?_⟩,by simp; omega⟩
   ·rw [e1,hz]
   ·rw [e1]; exact s3
 ·have:n = bs.length:=by rw [hs] at k; simp at k; omega
  subst this;exact ba hz s1
theorem sp_mail_Waits (x:Ptr) (bs:Mail.S) (c:Int):Sp prog lG [pv x,.int .i64 c] eN [jF x bs] (fun r=>pa_ (r = Mail.waits bs c) [jF x bs]):=by
 intro h s0;refine sim_mail_Mail_Waits _ _ ?_;unfold tA;refine cW [0] (sp_mail_is x bs c) s0 rfl fun r h1 s1=>?_;obtain ⟨rfl,s2⟩:=bA.1 s1;refine aX (fun k=>?_) (fun k=>?_)
 ·have k':Mail.has bs c = false:=by simpa using k
  exact ba (by simp [Mail.waits,k']) s2
 ·have k':Mail.has bs c = true:=by simpa using k
  obtain ⟨n,rfl,hn⟩:=has_nat k';obtain ⟨b,s,ss,rfl,hss,hb,hs,st⟩:=mail_op s2;have hns:n < ss.length:=by omega
  refine cL (bt s st (i:=0) rfl rfl rfl ?_);refine cU st (j:=1) rfl (by omega) (by omega) fun q hq=>?_;refine cX (j:=1) (i:=n) (k:=0) ss[n] sc st rfl hq (by simp) (aB hns) (by simp) ?_;have st1:=jM (aB hns) (aB hn) (bd [2] st rfl);have hl:=(bY (j:=0) st1 rfl).1;exact ba (by simp [Mail.waits,k',Mail.box,hn,hl]) s2
theorem sp_mail_Take (x:Ptr) (bs:Mail.S) (c:Int):Sp prog mL [pv x,.int .i64 c] bP [jF x bs] (fun r=>pa_ (r = (Mail.take bs c).1) [jF x (Mail.take bs c).2]):=by
 intro h s0;refine sim_mail_Mail_Take _ _ ?_;unfold uH;refine cW [0] (sp_mail_Waits x bs c) s0 rfl fun r h1 s1=>?_;obtain ⟨rfl,s2⟩:=bA.1 s1;refine aX (fun k=>?_) (fun k=>?_)
 ·have k':Mail.waits bs c = 0:=by simpa using k
  have e1:Mail.take bs c = ((0,false),bs):=if_pos k';rw [e1];exact ba rfl s2
 ·have k':¬ Mail.waits bs c = 0:=by simpa using k
  have e1:Mail.take bs c = (((Mail.box bs c).getD 0 0,true),bs.set c.toNat ((Mail.box bs c).drop 1)):=if_neg k';rw [e1];have hh:Mail.has bs c = true:=by
   unfold Mail.waits at k';cases e:Mail.has bs c with
   | true=>rfl
   | false=>rw [e] at k'; exact absurd rfl k'
  obtain ⟨n,rfl,hn⟩:=has_nat hh;obtain ⟨b,s,ss,rfl,hss,hb,hs,st⟩:=mail_op s2;have hns:n < ss.length:=by omega
  have hg:Mail.box bs n = bs[n]:=by simp [Mail.box,hn]
  have h0:0 < bs[n].length:=by
   unfold Mail.waits at k';rw [hh,hg] at k';simp at k';exact List.length_pos_iff.2 k'
  rw [hg];refine cL (bt s st (i:=0) rfl rfl rfl ?_);refine cU st (j:=1) rfl (by omega) (by omega) fun q hq=>?_;refine cX (j:=1) (i:=n) (k:=0) ss[n] sc st rfl hq (by simp) (aB hns) (by simp) ?_;have st1:=jM (aB hns) (aB hn) (bd [2] st rfl);refine cU st1 (j:=0) rfl (by omega) (by omega) fun q1 hq1=>?_;refine cX (j:=0) (i:=0) (k:=0) bs[n][0] (cf _) st1 rfl hq1 (by simp) (aB h0) (by simp) ?_;refine bt s st1 (i:=2) rfl rfl rfl ?_;refine cU st1 (j:=3) rfl (by omega) (by omega) fun q2 hq2=>?_;refine cX (j:=3) (i:=n) (k:=0) ss[n] sc st1 rfl hq2 (by simp) (aB hns) (by simp) ?_;have fin:∀ (v:Sl) (h:Hp),ay [vU v (bs[n].drop 1),but vU ss bs n,blk b lM [sv s],vec bi 1 cS s ss] h ->
    ix s n (fun q33=>Mb.st (q33.1,q33.2 + Int.toNat n * 1) [sv v]<|pa_ ((bs[n][0],true) = ((bs[n].getD 0 0,true):Int × Bool)) [jF (some (b,0)) (bs.set n (bs[n].drop 1))]) h:=by
   intro v h s7;refine cU s7 (j:=3) rfl (by omega) (by omega) fun q3 hq3=>?_;refine uq (j:=3) (i:=n) (k:=0) v sc s7 rfl hq3 (by simp) (aB hns) (by simp) rfl fun h8 s8=>?_;have s9:=all_in2 (y:=bs[n].drop 1) hn hss s8;exact ba (by simp [h0]) (mail_cl (by simpa using hss) (by simpa using hb) (bd [1,1] s9 rfl))
  refine ⟨?_,?_⟩
  ·refine bt s st1 (i:=2) rfl rfl rfl ?_;refine sliceFrom_v (i:=0) (n:=1) gr (cf _) rfl st1 rfl h0 fun v s5=>?_;exact fin v _ s5
  ·refine sliceFrom_v (i:=0) (n:=1) gr (cf _) rfl st1 rfl h0 fun v s5=>?_;refine bt s s5 (i:=2) rfl rfl rfl ?_;exact fin v _ s5
end
section
open Go Mb
def tE (a0:Ptr) (a1:Int) (K:kT Bool):hT:=br ((!a0.isNone) && (decide (a1 >= 0))) ( nn a0 fun q14=>ld (q14.1,q14.2 + 1) cS fun x16=>K (decide (a1 < (x16.len:Int)))) ( K false)
theorem sim_epoch_Epochs_is (a0:Ptr) (a1:Int) {K:kT Bool} {h:Hp} (H:tE a0 a1 K h):cl prog lI [(pv a0),(.int .i64 a1)] aD K h:=z_i func70 p p fun _=>O<|U p<|O<|M p<|J (v_pneT underlying75 p)<|M p<|W p p (aA _) (fun g1=>wv<|ag p)<|W p p (aA _) (fun g2=>wv<|iE (aC p g2) p)<|J (bN p p)<|M p<|W p p (aA _) (fun g3=>wv<|ag p)<|W p p (aA _) (fun g4=>wv<|ag p)<|bS H (fun k6 H7=>bL H7 fun q14 e8 H9=>z_O (Z k6)<|z_p (aP<|aJ (aC p k6)<|au e8)<|z_O (Z k6)<|z_p (ae fld_119_1 p)<|z_O (Z k6)<|aY H9 rQ p (fun _=>p) p fun x16 H10=>z_O (Z k6)<|z_p (dh p underlying106 p)<|z_O (Z k6)<|z_p (bZ (aC p k6) p)<|J (aI p k6 p)<|U p<|ah<|F ⟨decide (a1 < (x16.len:Int)),p,H10⟩) fun k6 H7=>Y (ax k6)<|Y (ax k6)<|Y (ax k6)<|Y (ax k6)<|Y (ax k6)<|J (ap p k6 p)<|U p<|ah<|F ⟨false,p,H7⟩
def sA (a0:Ptr) (K:kT Int):hT:=br a0.isNone ( K 0) ( nn a0 fun q6=>ld (q6.1,q6.2 + 0) cS fun x8=>K (u64.wrap (x8.len:Int)))
theorem sim_epoch_Epochs_Now (a0:Ptr) {K:kT Int} {h:Hp} (H:sA a0 K h):cl prog gn [(pv a0)] ic K h:=z_i func71 p p fun _=>O<|U p<|ai<|O<|M p<|J (cy underlying75 p)<|ad<|av p H (fun k1 H2=>O<|U p<|ah<|F ⟨0,p,H2⟩) fun k1 H2=>ak<|O<|M p<|bL H2 fun q6 e3 H4=>J (aP<|aJ p<|au e3)<|J (ae fld_119_0 p)<|aa<|aY H4 sc_27 p (fun _=>p) p fun x8 H5=>J (dh p underlying27 p)<|J (dB ⟨_,underlying3⟩ underlying31 p)<|U p<|ah<|F ⟨u64.wrap (x8.len:Int),p,H5⟩
def sB (a0:Ptr) (a1:Int) (a2:Int) (K:kT Bool):hT:=cl prog lI [(pv a0),(.int .i64 a1)] aD fun r9=>br (!((!r9) || (decide (a2 < 1)))) ( cl prog gn [(pv a0)] ic fun r18=>br (decide (a2 > r18)) ( K false) ( nn a0 fun q22=>ld (q22.1,q22.2 + 1) cS fun x29=>ix x29 a1 fun q31=>ld (q31.1,q31.2 + Int.toNat a1 * 1) (cI .u64) fun x32=>ld (q22.1,q22.2 + 1) cS fun x24=>ix x24 a1 fun q35=>st (q35.1,q35.2 + Int.toNat a1 * 1) [.int .u64 (mx x32 a2)]<|K true)) ( K false)
theorem sim_epoch_Epochs_Ack (a0:Ptr) (a1:Int) (a2:Int) {K:kT Bool} {h:Hp} (H:sB a0 a1 a2 K h):cl prog kG [(pv a0),(.int .i64 a1),(.int .u64 a2)] aD K h:=z_i func43 p p fun _=>O<|U p<|ai<|O<|M p<|M p<|aa<|G H en_70 fun r9 _ H1=>J (cw p)<|M p<|W p p (aL _) (fun g2=>wv<|ag p)<|W p p (aL _) (fun g3=>wv<|bZ (aC p g3) p)<|J (dy p p)<|M p<|W p p (aL _) (fun g4=>wv<|ag p)<|W p p (aL _) (fun g5=>wv<|ag p)<|bS H1 (fun k7 H8=>z_O (Z<|cg k7)<|gz H8 en_71 (aZ (aC p k7) bX) p fun r18 _ H9=>z_O (Z<|cg k7)<|z_p (hG (aC p k7) p)<|J (ap p (cg k7) p)<|ad<|av p H9 (fun k10 H11=>O<|U p<|ah<|F ⟨false,p,H11⟩) fun k10 H11=>ak<|ai<|bk (n:=16) [] ch p .slnil<|V 0 p (ag p)<|V 4 p (ag p)<|V 5 p (ag p)<|V 9 p (ag p)<|V 12 p (ag p)<|ip H11 fun q22 e12 H13=>V 1 p (aP<|aJ p<|au e12)<|V 2 p (ae fld_119_1 p)<|V 6 p (aP<|aJ p<|au e12)<|V 7 p (ae fld_119_1 p)<|bw (i:=8) (fun _ _ _ _ hh=>hh) H13 p (by kernel_rfl) rQ p (fun _=>p) p fun x29 H14=>dl H14 fun q31 e15 h16 H17=>V 10 p (aW sQ (aJ p<|aM e15) p h16)<|bw (i:=11) (fun _ _ _ _ hh=>hh) H17 p (by kernel_rfl) cC p (fun _=>p) p fun x32 H18=>V 13 p (v_maxT p p)<|bw (i:=3) (fun _ _ _ _ hh=>hh) H18 p (by kernel_rfl) rQ p (fun _=>p) p fun x24 H19=>dl H19 fun q35 e20 h21 H22=>V 14 p (aW sQ (aJ p<|aM e20) p h21)<|R 15 p<|dx inf_31 p p p p p H22 fun _ H23=>⟨.slnil,aG (by kernel_rfl)<|O<|U p<|ah<|F ⟨true,p,H23⟩⟩) fun k7 H8=>Y (be<|bG k7)<|Y (be<|bG k7)<|J (aI p (bG k7) p)<|ad<|gc p p<|O<|U p<|ah<|F ⟨false,p,H8⟩
def qr (a0:Ptr) (a1:Int) (K:kT (Int × Bool)):hT:=cl prog lI [(pv a0),(.int .i64 a1)] aD fun r8=>br (!r8) ( K (0,false)) ( nn a0 fun q12=>ld (q12.1,q12.2 + 0) cS fun x14=>hpv prog (Instr.buildSlice az 1 #[(0,(.int .i64 a1))]) aU fun (v16:Sl)=>hpv prog (Builtin.append_ #[az,az] az #[(sv x14),(sv v16)]) aU fun (v17:Sl)=>st (q12.1,q12.2 + 0) [sv v17]<|cl prog gn [(.pointer (some ⟨q12.1,q12.2,none⟩))] ic fun r21=>K (r21,true))
theorem xB (a0:Ptr) (a1:Int) {K:kT (Int × Bool)} {h:Hp} (H:qr a0 a1 K h):cl prog js [(pv a0),(.int .i64 a1)] bP K h:=z_i func49 p p fun _=>O<|J (ar p)<|U p<|ai<|O<|M p<|M p<|aa<|G H en_70 fun r8 _ H1=>J (cw p)<|ad<|av p H1 (fun k2 H3=>O<|J (ar p)<|U p<|ah<|bE (bW p (cj p)<|cj p) ⟨(0,false),p,H3⟩) fun k2 H3=>ak<|O<|M p<|M p<|bL H3 fun q12 e4 H5=>J (aP<|aJ p<|au e4)<|J (ae fld_119_0 p)<|aa<|aY H5 sc_27 p (fun _=>p) p fun x14 H6=>M p<|aa<|aF H6 (bh (vs:=[(.int .i64 a1)]) p) p fun v16 _ H7=>aa<|aF H7 (bz p p) p fun v17 _ H8=>J (aP<|aJ p<|au e4)<|J (ae fld_119_0 p)<|aa<|dx inf_27 p p p p p H8 fun _ H9=>ad<|O<|M (aJ p<|au e4)<|aa<|G H9 en_71 fun r21 _ H10=>J (ar p)<|U p<|ah<|bE (bW p (cj p)<|cj p) ⟨(r21,true),p,H10⟩
def dH (Rec13:kT (Sl × Int)) (s12:Sl × Int) (s21:Bool):hT:=br s21 ( hpv prog (Instr.buildSlice az 1 #[(0,(.int .i64 s12.2))]) aU fun (v43:Sl)=>hpv prog (Builtin.append_ #[az,az] az #[(sv s12.1),(sv v43)]) aU fun (v44:Sl)=>Rec13 (v44,(i64.wrap (s12.2 + 1)))) ( Rec13 (s12.1,(i64.wrap (s12.2 + 1))))
def lA (a1:Int) (K:kT Sl) (q17:Nat × Nat) (x19:Sl) (Rec13:kT (Sl × Int)) (s12:Sl × Int):hT:=br (decide (s12.2 < (x19.len:Int))) ( ix x19 s12.2 fun q24=>ld (q24.1,q24.2 + Int.toNat s12.2 * 1) (cI .u64) fun x25=>br (decide (x25 < a1)) ( ld (q17.1,q17.2 + 0) cS fun x33=>ix x33 (u64.wrap (a1 - 1)) fun q36=>ld (q36.1,q36.2 + Int.toNat (u64.wrap (a1 - 1)) * 1) (cI .i64) fun x37=>dH Rec13 s12 (x37 != s12.2)) ( dH Rec13 s12 false)) ( K s12.1)
def qq (a0:Ptr) (a1:Int) (K:kT Sl):hT:=br (!(decide (a1 < 1))) ( cl prog gn [(pv a0)] ic fun r13=>br (decide (a1 > r13)) ( K (⟨none,0,0,none⟩:Sl)) ( nn a0 fun q17=>ld (q17.1,q17.2 + 1) cS fun x19=>Lp (lA a1 K q17 x19) ((⟨none,0,0,none⟩:Sl),0))) ( K (⟨none,0,0,none⟩:Sl))
theorem xA (a0:Ptr) (a1:Int) {K:kT Sl} {h:Hp} (H:qq a0 a1 K h):cl prog jr [(pv a0),(.int .u64 a1)] aU K h:=z_i func80 p p fun _=>O<|U p<|ai<|O<|M p<|J (bZ p p)<|M p<|W p p (aL _) (fun g1=>wv<|ag p)<|W p p (aL _) (fun g2=>wv<|ag p)<|bS H (fun k4 H5=>z_O (Z<|cg k4)<|gz H5 en_71 (aZ (aC p k4) bX) p fun r13 _ H6=>z_O (Z<|cg k4)<|z_p (hG (aC p k4) p)<|J (ap p (cg k4) p)<|ad<|av p H6 (fun k7 H8=>O<|U p<|ah<|F ⟨(⟨none,0,0,none⟩:Sl),p,H8⟩) fun k7 H8=>ak<|O<|U p<|ai<|O<|M p<|bL H8 fun q17 e9 H10=>J (aP<|aJ p<|au e9)<|J (ae fld_119_1 p)<|aa<|aY H10 rQ p (fun _=>p) p fun x19 H11=>J (dh p underlying106 p)<|M p<|ad<|aw<|bv (step:=lA a1 K q17 x19) (fun s12=>[(0,(pv a0)),(1,(.int .u64 a1)),(5,(sv s12.1)),(19,(sv x19)),(20,(.int .i64 (x19.len:Int))),(21,(.int .i64 s12.2))]) (fun s12=>[]) H11 (.cons p<|.cons p<|.cons p<|.cons p<|.cons p<|.cons p<|.nil _) .slnil fun Rec13 s12 _ H14=>O<|J (bZ p p)<|ad<|ai<|av p H14 (fun k15 H16=>ak<|ai<|aw<|O<|M p<|cm H16 fun q24 e17 h18 H19=>J (aW sQ (aJ p<|aM e17) p h18)<|aa<|aY H19 cC p (fun _=>p) p fun x25 H20=>J (ar p)<|U p<|dY (dH Rec13 s12) (fun s21=>[(0,(pv a0)),(1,(.int .u64 a1)),(5,(sv s12.1)),(6,(.int .i64 s12.2)),(19,(sv x19)),(20,(.int .i64 (x19.len:Int))),(21,(.int .i64 s12.2)),(40,(.bool s21))]) (fun s21=>[]) (am<|M p<|M p<|J (bZ p p)<|M p<|W p p (aA _) (fun g27=>wv<|ag<|aJ p<|au e9)<|W p p (aA _) (fun g28=>wv<|aP<|aC p g28)<|W p p (aA _) (fun g29=>wv<|ae fld_119_0<|aC p g29)<|bS H20 (fun k31 H32=>z_O (Z k31)<|aY H32 sc_27 (aC p k31) (fun _=>p) p fun x33 H33=>z_O (Z k31)<|z_p (ag p)<|z_O (Z k31)<|z_p (iD p p)<|cm H33 fun q36 e34 h35 H36=>z_O (Z k31)<|z_p (aW dz (aJ p<|aM e34) p h35)<|z_O (Z k31)<|aY H36 aR p (fun _=>p) p fun x37 H37=>z_O (Z k31)<|z_p (ag p)<|z_O (Z k31)<|z_p (nS p p)<|J (aI p k31 p)<|ad<|ct (x37 != s12.2) H37 (.cons p<|.cons p<|.cons p<|.cons p<|.cons p<|.cons p<|.cons p<|.cons p<|.nil _) .slnil) fun k31 H32=>Y (ax k31)<|Y (ax k31)<|Y (ax k31)<|Y (ax k31)<|Y (ax k31)<|Y (ax k31)<|Y (ax k31)<|J (ap p k31 p)<|ad<|ct false H32 (.cons p<|.cons p<|.cons p<|.cons p<|.cons p<|.cons p<|.cons p<|.cons p<|.nil _) .slnil) fun s21 _ H22=>av p H22 (fun k23 H24=>am<|M p<|M p<|aa<|aF H24 (bh (vs:=[(.int .i64 s12.2)]) p) p fun v43 _ H25=>aa<|aF H25 (bz p p) p fun v44 _ H26=>U p<|am<|J (bb p p)<|M p<|ad<|bU (v44,(i64.wrap (s12.2 + 1))) H26 (.cons p<|.cons p<|.cons p<|.cons p<|.cons p<|.cons p<|.nil _) .slnil) fun k23 H24=>ak<|am<|J (bb p p)<|M p<|ad<|bU (s12.1,(i64.wrap (s12.2 + 1))) H24 (.cons p<|.cons p<|.cons p<|.cons p<|.cons p<|.cons p<|.nil _) .slnil) fun k15 H16=>bf<|O<|M p<|U p<|ah<|F ⟨s12.1,p,H16⟩) fun k4 H5=>Y (be<|bG k4)<|Y (be<|bG k4)<|J (aI p (bG k4) p)<|ad<|gc p p<|O<|U p<|ah<|F ⟨(⟨none,0,0,none⟩:Sl),p,H5⟩
def rz (a0:Ptr) (a1:Int) (K:kT Bool):hT:=br (decide (a1 >= 1)) ( cl prog gn [(pv a0)] ic fun r10=>br (decide (a1 <= r10)) ( cl prog jr [(pv a0),(.int .u64 a1)] aU fun r16=>K ((r16.len:Int) == 0)) ( K false)) ( K false)
theorem sim_epoch_Epochs_Done (a0:Ptr) (a1:Int) {K:kT Bool} {h:Hp} (H:rz a0 a1 K h):cl prog jK [(pv a0),(.int .u64 a1)] aD K h:=z_i func51 p p fun _=>O<|U p<|O<|M p<|J (iE p p)<|M p<|W p p (aA _) (fun g1=>wv<|ag p)<|W p p (aA _) (fun g2=>wv<|ag p)<|bS H (fun k4 H5=>z_O (Z k4)<|gz H5 en_71 (aZ (aC p k4) bX) p fun r10 _ H6=>z_O (Z k4)<|z_p (vX (aC p k4) p)<|J (aI p k4 p)<|M p<|W p p (aA _) (fun g7=>wv<|ag p)<|W p p (aA _) (fun g8=>wv<|ag p)<|bS H6 (fun k10 H11=>z_O (Z k10)<|gz H11 en_80 (aZ (aC p k10)<|aZ (aC p k10) bX) p fun r16 _ H12=>z_O (Z k10)<|z_p (dh p underlying27 p)<|z_O (Z k10)<|z_p (bM p p)<|J (aI p k10 p)<|U p<|ah<|F ⟨((r16.len:Int) == 0),p,H12⟩) fun k10 H11=>Y (ax k10)<|Y (ax k10)<|Y (ax k10)<|J (ap p k10 p)<|U p<|ah<|F ⟨false,p,H11⟩) fun k4 H5=>Y (ax k4)<|Y (ax k4)<|J (ap p k4 p)<|M p<|Y p<|Y p<|Y p<|Y p<|Y p<|J (ap p p p)<|U p<|ah<|F ⟨false,p,H5⟩
def sh_epoch_New (a0:Int) (K:kT Ptr):hT:=br ((decide (a0 < 1)) || (decide (a0 > 8))) ( K none) ( hpv prog (Instr.makeSlice bi (.int .i64 a0) (.int .i64 a0)) ck fun (v10:Sl)=>nw iG (ki.C (⟨(⟨none,0,0,none⟩:Sl),v10⟩:ki)) fun b12=>K (some (b12,0)))
theorem sim_epoch_New (a0:Int) {K:kT Ptr} {h:Hp} (H:sh_epoch_New a0 K h):cl prog oI [(.int .i64 a0)] jg K h:=z_i func58 p p fun _=>O<|U p<|ai<|O<|M p<|J (bZ p p)<|M p<|W p p (aL _) (fun g1=>wv<|ag p)<|W p p (aL _) (fun g2=>wv<|hG (aC p g2) p)<|J (dy p p)<|ad<|av p H (fun k3 H4=>O<|U p<|ah<|F ⟨none,p,H4⟩) fun k3 H4=>ak<|O<|M p<|aa<|aF H4 (km p p) p fun v10 _ H5=>J (bg p<|build_119_1 v10)<|aa<|iF p p p H5 fun b12 _ H6=>U p<|ah<|F ⟨some (b12,0),p,H6⟩
end
section
open Go Mb
def fH (x:Ptr) (e:List Int × List Int):As:=fun h=>∃ bs:Nat × Sl × Sl,(x = some (bs.1,0)/\e.2.length <= 8/\e.1.length < 2 ^ 38)/\ay [blk bs.1 iG [sv bs.2.1,sv bs.2.2],vI bs.2.1 e.1,vU bs.2.2 e.2] h
theorem ep_op {x:Ptr} {e:List Int × List Int} {l:List As} {h:Hp} (s0:ay (fH x e::l) h):∃ b s t,x = some (b,0)/\e.2.length <= 8/\e.1.length < 2 ^ 38/\s.len = e.1.length/\t.len = e.2.length/\ay (blk b iG [sv s,sv t]::vI s e.1::vU t e.2::l) h:=by
 obtain ⟨⟨b,s,t⟩,⟨hx,h1,h2⟩,st⟩:=op_ s0;exact ⟨b,s,t,hx,h1,h2,(bY (j:=1) st rfl).1,(bY (j:=2) st rfl).1,st⟩
theorem ep_cl {b:Nat} {s t:Sl} {e1 e2:List Int} {l:List As} {h:Hp} (h1:e2.length <= 8) (h2:e1.length < 2 ^ 38) (st:ay (blk b iG [sv s,sv t]::vI s e1::vU t e2::l) h):ay (fH (some (b,0)) (e1,e2)::l) h :=
 cl_ (m:=fun bs:Nat × Sl × Sl=>[blk bs.1 iG [sv bs.2.1,sv bs.2.2],vI bs.2.1 (e1,e2).1,vU bs.2.2 (e1,e2).2]) (b,s,t) ⟨rfl,h1,h2⟩ st
namespace fKa
abbrev S:=List Int × List Int
def is (e:S) (c:Int):Bool:=decide (0 <= c/\c < e.2.length)
def now (e:S):Int:=e.1.length
def begin_ (e:S) (c:Int):(Int × Bool) × S:=if is e c then ((e.1.length + 1,true),(e.1++[c],e.2)) else ((0,false),e)
def ack (e:S) (c n:Int):Bool × S:=if is e c = true/\¬ n < 1/\¬ n > now e then (true,(e.1,e.2.set c.toNat (mx (e.2.getD c.toNat 0) n))) else (false,e)
def fDb (n o:Int):List Int->Int->List Int
 | [],_=>[]
 | a::l,i=>if a < n/\o ≠ i then i::fDb n o l (i + 1) else fDb n o l (i + 1)
def waits (e:S) (n:Int):List Int:=if n < 1\/n > now e then [] else fDb n (e.1.getD (n - 1).toNat 0) e.2 0
def done (e:S) (n:Int):Bool:=decide (n >= 1) && decide (n <= now e) && decide (waits e n = [])
end fKa
theorem wrapU {n:Int} (h0:0 <= n) (h1:n < 2^64):u64.wrap n = n:=by
 simp only [IntKind.wrap]; first | omega | (simp [IntKind.bits,IntKind.signed]; omega)
theorem sP (n:Int) (h1:¬ n < 1) (h2:¬ n > 8):Sp prog oI [.int .i64 n] jg [] (fun r=>ay [fH r ([],replicate n.toNat 0)]):=by
 intro h st;refine sim_epoch_New _ ?_;unfold sh_epoch_New;obtain ⟨m,rfl⟩:=Int.eq_ofNat_of_zero_le (show 0 <= n by omega);refine dN (by simp; omega) ?_;refine oJ (τ:=Int) (x0:=0) (enc:=cI .u64) (n:=m) gr rfl st ?_ ?_ ?_
 ·omega
 ·omega
 ·intro v h' s1;refine pC s1 fun b h'' s2=>?_;exact ep_cl (by simp; omega) (by simp) (bd [1] (fu s2) rfl)
theorem sp_epoch_is (x:Ptr) (e:fKa.S) (c:Int):Sp prog lI [pv x,.int .i64 c] aD [fH x e] (fun r=>pa_ (r = fKa.is e c) [fH x e]):=by
 intro h s0;obtain ⟨b,s,t,rfl,hb,he,hs,ht,st⟩:=ep_op s0;refine sim_epoch_Epochs_is _ _ ?_;unfold tE;refine aX (fun k=>?_) (fun k=>?_)
 ·have k':0 <= c:=by simpa using k
  refine cL (bt t st (i:=0) rfl rfl rfl ?_);exact ba (by simp [fKa.is,k',ht]) s0
 ·have k':¬ 0 <= c:=by simpa using k
  exact ba (by simp [fKa.is]; intro h; exact absurd h k') s0
theorem sO (x:Ptr) (e:fKa.S):Sp prog gn [pv x] ic [fH x e] (fun r=>pa_ (r = fKa.now e) [fH x e]):=by
 intro h s0;obtain ⟨b,s,t,rfl,hb,he,hs,ht,st⟩:=ep_op s0;refine sim_epoch_Epochs_Now _ ?_;unfold sA;refine dN rfl (cL (bt s st (i:=0) rfl rfl rfl ?_));exact ba (by rw [wrapU (by omega) (by omega),hs]; rfl) s0
theorem sp_epoch_Begin (x:Ptr) (e:fKa.S) (c:Int) (hl:e.1.length < 2 ^ 37):Sp prog js [pv x,.int .i64 c] bP [fH x e] (fun r=>pa_ (r = (fKa.begin_ e c).1) [fH x (fKa.begin_ e c).2]):=by
 intro h s0;refine xB _ _ ?_;unfold qr;refine cW [0] (sp_epoch_is x e c) s0 rfl fun r h1 s1=>?_;obtain ⟨hr,s2⟩:=bA.1 s1;subst hr;refine aX (fun k=>?_) (fun k=>?_)
 ·have k':fKa.is e c = false:=by simpa using k
  have e1:fKa.begin_ e c = ((0,false),e):=by unfold fKa.begin_; rw [k']; rfl
  rw [e1];exact ba rfl s2
 ·have k':fKa.is e c = true:=by simpa using k
  have e1:fKa.begin_ e c = (((e.1.length:Int) + 1,true),(e.1++[c],e.2)):=if_pos k';rw [e1];obtain ⟨b,s,t,rfl,hb,he,hs,ht,st⟩:=ep_op s2;refine cL (bt s st (i:=0) rfl rfl rfl ?_);refine tk st (i:=1) rfl (by omega) fun v h3 s3=>?_;refine vv (i:=0) s3 rfl (show 0 + 0 + 1 <= 2 by decide) fun h4 s4=>?_;have s5:=ep_cl (e1:=e.1++[c]) (e2:=e.2) hb (by simp; omega) s4;refine cW [0] (sO (some (b,0)) (e.1++[c],e.2)) s5 rfl fun r h6 s6=>?_;obtain ⟨hr,s7⟩:=bA.1 s6;subst hr;exact ba (by simp [fKa.now]) s7
theorem sp_epoch_Ack (x:Ptr) (e:fKa.S) (c n:Int):Sp prog kG [pv x,.int .i64 c,.int .u64 n] aD [fH x e] (fun r=>pa_ (r = (fKa.ack e c n).1) [fH x (fKa.ack e c n).2]):=by
 intro h s0;refine sim_epoch_Epochs_Ack _ _ _ ?_;unfold sB;refine cW [0] (sp_epoch_is x e c) s0 rfl fun r h1 s1=>?_;obtain ⟨hr,s2⟩:=bA.1 s1;subst hr;have no:¬ (fKa.is e c = true/\¬ n < 1/\¬ n > fKa.now e)->fKa.ack e c n = (false,e):=fun hh=>if_neg hh;refine aX (fun k=>?_) (fun k=>?_)
 ·have k':fKa.is e c = true/\¬ n < 1:=by simpa using k
  refine cW [0] (sO x e) s2 rfl fun r h3 s3=>?_;obtain ⟨hr,s4⟩:=bA.1 s3;subst hr;refine aX (fun k2=>?_) (fun k2=>?_)
  ·rw [no (fun hh=>hh.2.2 (by simpa using k2))];exact ba rfl s4
  ·have k2':¬ n > fKa.now e:=by simpa using k2
   have e1:fKa.ack e c n = (true,(e.1,e.2.set c.toNat (mx (e.2.getD c.toNat 0) n))):=if_pos ⟨k'.1,k'.2,k2'⟩;rw [e1];obtain ⟨b,s,t,rfl,hb,he,hs,ht,st⟩:=ep_op s4;have hc:=k'.1;unfold fKa.is at hc;have hc':=of_decide_eq_true hc;obtain ⟨m,rfl⟩:=Int.eq_ofNat_of_zero_le hc'.1;have hm:m < e.2.length:=by omega
   refine cL (bt t st (i:=0) rfl rfl rfl ?_);refine cU st (j:=2) rfl (by omega) (by omega) fun q hq=>?_;refine cX (j:=2) (i:=m) (k:=0) e.2[m] (cf _) st rfl hq (by simp) (aB hm) (by simp) ?_;refine bt t st (i:=0) rfl rfl rfl ?_;refine cU st (j:=2) rfl (by omega) (by omega) fun q2 hq2=>?_;refine uq (j:=2) (i:=m) (k:=0) (mx e.2[m] n) (cf _) st rfl hq2 (by simp) (aB hm) (by simp) rfl fun h5 s5=>?_;have hg:e.2.getD (m:Int).toNat 0 = e.2[m]:=by simp [hm]
   rw [hg];exact ba rfl (ep_cl (by simpa using hb) he s5)
 ·have k':¬ (fKa.is e c = true/\¬ n < 1):=by simp at k; simp; omega
  rw [no (fun hh=>k' ⟨hh.1,hh.2.1⟩)];exact ba rfl s2
theorem wZ (n o:Int):∀ (l:List Int) (i:Int) (a:Int),fKa.fDb n o (l++[a]) i = fKa.fDb n o l i++(if a < n/\o ≠ i + l.length then [i + l.length] else [])
 | [],i,a=>by simp only [List.nil_append,fKa.fDb]; split <;> simp_all
 | y::l,i,a=>by
  simp only [List.cons_append,fKa.fDb];rw [wZ n o l (i + 1) a];have e:i + 1 + (l.length:Int) = i + ((y::l).length:Int):=by simp; omega
  rw [e];split <;> simp
theorem waits_len (n o:Int):∀ (l:List Int) (i:Int),(fKa.fDb n o l i).length <= l.length
 | [],_=>le_refl _
 | a::l,i=>by unfold fKa.fDb; have:=waits_len n o l (i + 1); split <;> simp <;> omega
theorem sp_epoch_Waits (x:Ptr) (e:fKa.S) (n:Int):Sp prog jr [pv x,.int .u64 n] aU [fH x e] (fun r=>ay [vI r (fKa.waits e n),fH x e]):=by
 intro h s0;refine xA _ _ ?_;unfold qq;have no:(n < 1\/n > fKa.now e)->fKa.waits e n = []:=fun hh=>if_pos hh;refine aX (fun k=>?_) (fun k=>?_)
 ·have k':¬ n < 1:=by simpa using k
  refine cW [0] (sO x e) s0 rfl fun r h3 s3=>?_;obtain ⟨hr,s4⟩:=bA.1 s3;subst hr;refine aX (fun k2=>?_) (fun k2=>?_)
  ·rw [no (.inr (by simpa using k2))];exact fu s4
  ·have k2':¬ n > fKa.now e:=by simpa using k2
   have e1:fKa.waits e n = fKa.fDb n (e.1.getD (n - 1).toNat 0) e.2 0:=if_neg (by omega);rw [e1];obtain ⟨b,s,t,rfl,hb,he,hs,ht,st⟩:=ep_op s4;obtain ⟨m,hm⟩:=Int.eq_ofNat_of_zero_le (show 0 <= n - 1 by omega);have hm':m < e.1.length:=by unfold fKa.now at k2'; omega
   have hwu:u64.wrap (n - 1) = m:=by rw [wrapU (by omega) (by omega),hm]
   have hg:e.1.getD (n - 1).toNat 0 = e.1[m]:=by rw [hm]; simp [hm']
   rw [hg];refine cL (bt t st (i:=0) rfl rfl rfl ?_);refine Lp.intro (fun (z:Sl × Int) h=>∃ k:Nat,z.2 = k/\k <= e.2.length/\ay [vI z.1 (fKa.fDb n e.1[m] (e.2.take k) 0),blk b iG [sv s,sv t],vI s e.1,vU t e.2] h) (fun (z:Sl × Int) _=>e.2.length - z.2.toNat) ⟨0,rfl,zero_le _,fu st⟩ ?_;rintro ⟨z,i⟩ h ⟨k3,rfl,hk3,s5⟩;unfold lA;refine aX (fun c=>?_) (fun c=>?_)
   ·have hlt:k3 < e.2.length:=by rw [ht] at c; simpa using c
    have hw:i64.wrap ((k3:Int) + 1) = ((k3 + 1:Nat):Int):=by rw [bp (by omega) (by omega)]; rfl
    have htk:e.2.take (k3 + 1) = e.2.take k3++[e.2[k3]]:=by simp
    have hlen:((e.2.take k3).length:Int) = k3:=by simp; omega
    have off:¬ (e.2[k3] < n/\e.1[m] ≠ k3)->dH (fun z' h'=>(∃ k:Nat,z'.2 = k/\k <= e.2.length/\ay [vI z'.1 (fKa.fDb n e.1[m] (e.2.take k) 0),blk b iG [sv s,sv t],vI s e.1,vU t e.2] h')/\e.2.length - z'.2.toNat < e.2.length - (k3:Int).toNat) (z,(k3:Int)) false h:=by
     intro hno;unfold dH;refine dN rfl ?_;rw [hw];refine ⟨⟨k3 + 1,rfl,hlt,?_⟩,by simp; omega⟩;rw [htk,wZ,hlen,Int.zero_add,if_neg hno,List.append_nil];exact s5
    refine cU s5 (j:=3) rfl (by omega) (by show (k3:Int) < _; omega) fun q hq=>?_;refine cX (j:=3) (i:=k3) (k:=0) e.2[k3] (cf _) s5 rfl hq (by simp) (aB hlt) (by simp) ?_;refine aX (fun c2=>?_) (fun c2=>?_)
    ·have c2':e.2[k3] < n:=by simpa using c2
     refine bt s s5 (i:=1) rfl rfl rfl ?_;rw [hwu];refine cU s5 (j:=2) rfl (by omega) (by omega) fun q2 hq2=>?_;refine cX (j:=2) (i:=m) (k:=0) e.1[m] (cf _) s5 rfl hq2 (by simp) (aB hm') (by simp) ?_;by_cases hne:e.1[m] = (k3:Int)
     ·have:(e.1[m] != (k3:Int)) = false:=by simp [hne]
      show dH _ _ (e.1[m] != (k3:Int)) h;rw [this];exact off (fun hh=>hh.2 hne)
     ·have:(e.1[m] != (k3:Int)) = true:=by simp [hne]
      show dH _ _ (e.1[m] != (k3:Int)) h;rw [this];unfold dH;refine eG rfl ?_;refine tk s5 (i:=0) rfl ?_ fun v h' s6=>?_
      ·have:=waits_len n e.1[m] (e.2.take k3) 0; simp at this; omega
      ·rw [hw];refine ⟨⟨k3 + 1,rfl,hlt,?_⟩,by simp; omega⟩;rw [htk,wZ,hlen,Int.zero_add,if_pos ⟨c2',hne⟩];exact s6
    ·have c2':¬ e.2[k3] < n:=by simpa using c2
     exact off (fun hh=>c2' hh.1)
   ·have:k3 = e.2.length:=by rw [ht] at c; simp at c; omega
    subst this;rw [List.take_length] at s5;exact star_tail s5 fun h6 s6=>ep_cl hb he s6
 ·have k':n < 1:=by simpa using k
  rw [no (.inl k')];exact fu s0
theorem sp_epoch_Done (x:Ptr) (e:fKa.S) (n:Int):Sp prog jK [pv x,.int .u64 n] aD [fH x e] (fun r=>pa_ (r = fKa.done e n) [fH x e]):=by
 intro h s0;refine sim_epoch_Epochs_Done _ _ ?_;unfold rz;refine aX (fun k=>?_) (fun k=>?_)
 ·have k':n >= 1:=by simpa using k
  refine cW [0] (sO x e) s0 rfl fun r h3 s3=>?_;obtain ⟨hr,s4⟩:=bA.1 s3;subst hr;refine aX (fun k2=>?_) (fun k2=>?_)
  ·refine cW [0] (sp_epoch_Waits x e n) s4 rfl fun r h5 s5=>?_;have s6:=dq s5;have hl:=(bY (j:=0) s6 rfl).1;refine ba ?_ (ce (l:=[vI r (fKa.waits e n)]) s6);have e1:decide (n >= 1) = true:=k;have e2:decide (n <= fKa.now e) = true:=k2;rw [hl];unfold fKa.done;rw [e1,e2];cases fKa.waits e n with
   | nil=>rfl
   | cons a l=>simp; omega
  ·exact ba (by unfold fKa.done; rw [k2]; simp) s4
 ·exact ba (by unfold fKa.done; rw [k]; rfl) s0
end
end Go.Proofs.YtochchocdckegaaGreatDoor
