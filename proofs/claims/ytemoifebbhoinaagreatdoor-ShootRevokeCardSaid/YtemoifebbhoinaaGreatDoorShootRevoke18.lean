/- Part of the proof of: The law ShootRevoke returns true for every input, and leaves its arguments as they were. -/
import Derived.Test.YtemoifebbhoinaaGreatDoorShootRevoke17
set_option linter.all false
set_option maxRecDepth 20000
namespace Go.Proofs.YtemoifebbhoinaaGreatDoor
open Go Mb
theorem empty_get (pg:Int):Table.get (List.replicate 8 dh) pg = (dh,false):=by
  apply Table.get_no
  rintro ⟨h1,h2⟩
  obtain ⟨n,rfl,hn⟩:=mJ h1
  have key:∀ n,n < 8→((List.replicate 8 dh).getD n dh).fRights = 0:=by decide
  apply h2
  unfold Table.at_
  rw [Int.toNat_natCast]
  exact key n hn
theorem tabFor_get (k:KK) (e pg:Int) (h:(Table.get (KK.tabFor k e pg) pg).1.fRights ≠ 0):(KK.seen k e pg).2 = true∧(Table.get (KK.tabFor k e pg) pg).1 = (KK.seen k e pg).1:=by
  unfold KK.tabFor at h ⊢
  by_cases hs:(KK.seen k e pg).2 = true
  · rw [if_pos hs] at h ⊢
    refine ⟨hs,?_⟩
    by_cases hz:(Table.insert (List.replicate 8 dh) pg (KK.seen k e pg).1).1 = 0
    · rw [Table.get_insert (by simp) _ _ hz,if_pos rfl]
    · rw [Table.insert_same _ _ hz,empty_get] at h
      exact absurd rfl h
  · rw [if_neg hs,empty_get] at h
    exact absurd rfl h
theorem walk_lines {b:Buf} (hb:Tlb.TOk b) (t:List Pte) (e pg kind:Int):Tlb.TOk (User.walk b t e pg kind).2∧∀ l ∈ Tlb.lines (User.walk b t e pg kind).2,0 ≤ l.fEnv→l ∈ Tlb.lines b∨(l = ⟨e,pg,(Table.get t pg).1.fFrame,(Table.get t pg).1.fRights⟩∧1 ≤ (Table.get t pg).1.fRights∧(Table.get t pg).1.fRights ≤ 3):=by
  unfold User.walk
  split
  · exact ⟨hb,fun l hl _=>.inl hl⟩
  · split
    · exact ⟨Tlb.tok_flush hb _ _,fun l hl he=>.inl (Tlb.lines_flush hb hl he).1⟩
    · obtain ⟨h1,h2⟩:=Tlb.tok_fill hb ⟨e,pg,(Table.get t pg).1.fFrame,(Table.get t pg).1.fRights⟩
      refine ⟨h1,fun l hl he=>?_⟩
      rcases h2 l hl he with ⟨rfl,hn⟩ | h
      · refine .inr ⟨rfl,?_⟩
        unfold Tlb.bad at hn
        have:cg (Table.get t pg).1.fRights = true:=by
          cases hm:cg (Table.get t pg).1.fRights with
          | true=>rfl
          | false=>exact absurd (.inr (.inr (.inr (.inr (.inr (.inr hm)))))) hn
        exact uz.1 this
      · exact .inl h
theorem fy.access {k:KK} (I:fy k) {c:Nat} (hc:c < k.calls.length) (x:KC):fy (KK.access k c x).2∧(KK.access k c x).2.calls = k.calls∧(KK.access k c x).2.epochs = k.epochs:=by
  unfold KK.access
  split
  · exact ⟨I,rfl,rfl⟩
  · have hw:=walk_lines (I.tok c hc) (KK.tabFor k x.fenv (IntKind.i64.wrap x.fc.e1)) x.fenv (IntKind.i64.wrap x.fc.e1) (IntKind.i64.wrap x.fc.e0)
    have I1:fy { k with tlbs:=k.tlbs.set c (KK.accWalk k c x).2 }:=by
      unfold KK.accWalk
      rw [kbuf_nat]
      refine I.buf hc hw.1 fun l hl he=>?_
      rcases hw.2 l hl he with h | ⟨rfl,h1,h2⟩
      · exact I.line c hc l h he
      · obtain ⟨s1,s2⟩:=tabFor_get k x.fenv (IntKind.i64.wrap x.fc.e1) (by omega)
        have hcov:Cov (KK.seen k x.fenv (IntKind.i64.wrap x.fc.e1)).1 (⟨x.fenv,IntKind.i64.wrap x.fc.e1,(Table.get (KK.tabFor k x.fenv (IntKind.i64.wrap x.fc.e1)) (IntKind.i64.wrap x.fc.e1)).1.fFrame,(Table.get (KK.tabFor k x.fenv (IntKind.i64.wrap x.fc.e1)) (IntKind.i64.wrap x.fc.e1)).1.fRights⟩:jO):=by
          refine ⟨?_,?_⟩
          · show (KK.seen k x.fenv (IntKind.i64.wrap x.fc.e1)).1.fFrame = (Table.get (KK.tabFor k x.fenv (IntKind.i64.wrap x.fc.e1)) (IntKind.i64.wrap x.fc.e1)).1.fFrame
            rw [s2]
          · show aQ (Table.get (KK.tabFor k x.fenv (IntKind.i64.wrap x.fc.e1)) (IntKind.i64.wrap x.fc.e1)).1.fRights (KK.seen k x.fenv (IntKind.i64.wrap x.fc.e1)).1.fRights = true
            rw [← s2]; exact within_refl ⟨h1,h2⟩
        obtain ⟨a1,a2⟩:=(seen_cov I.en I.F I.tell_all _ _ _).1 ⟨s1,hcov⟩
        exact ⟨a1,fun d y hy _=>a2 y (tells_mem hy) hy.2⟩
    split
    · exact ⟨I1,rfl,rfl⟩
    · exact ⟨I1.touch _ _,rfl,rfl⟩
theorem ends_inv {k:KK} (I:fy k) {c:Nat} (x:KC) (a:eM) (l:jO):fy (KK.ends k c x a l) :=
  I.put (kok_ends I.ok _ _ _ _) (c:=c) (o:=none) (fun _ h=>by cases h) rfl rfl rfl rfl (by simp [KK.ends])
theorem sends_box {bs:Mail.S} {f:Nat} (hf:f < bs.length) (e:Int):∀ n,n ≤ bs.length→∀ t:Nat,t < bs.length→Mail.box (Mail.sends bs f e n).2 t = if t < n∧t ≠ f then Mail.box bs t++[e] else Mail.box bs t
  | 0,_,t,_=>by rw [if_neg (by omega)]; rfl
  | n + 1,hn,t,ht=>by
    have ih:=sends_box hf e n (by omega) t ht
    have hlen:=Mail.sends_len bs f e n
    have hs:(Mail.sends bs f e (n + 1)).2 = (Mail.send (Mail.sends bs f e n).2 f n e).2:=by rw [Mail.sends]; split <;> rfl
    rw [hs]
    unfold Mail.send
    by_cases hnf:n = f
    · have hc:¬ (Mail.has (Mail.sends bs f e n).2 f = true∧Mail.has (Mail.sends bs f e n).2 n = true∧(f:Int) ≠ n):=fun h=>h.2.2 (by rw [hnf])
      rw [if_neg hc,ih]
      by_cases h1:t < n∧t ≠ f
      · rw [if_pos h1,if_pos ⟨by omega,h1.2⟩]
      · rw [if_neg h1,if_neg (by omega)]
    · have hc:Mail.has (Mail.sends bs f e n).2 f = true∧Mail.has (Mail.sends bs f e n).2 n = true∧(f:Int) ≠ n:=by
        unfold Mail.has
        rw [hlen]
        exact ⟨decide_eq_true (by omega),decide_eq_true (by omega),by omega⟩
      rw [if_pos hc]
      have hbox:∀ v,Mail.box ((Mail.sends bs f e n).2.set (n:Int).toNat v) t = if t = n then v else Mail.box (Mail.sends bs f e n).2 t:=by
        intro v
        simp only [Mail.box,Int.toNat_natCast,List.getD_eq_getElem?_getD,List.getElem?_set]
        by_cases h1:n = t
        · subst h1; simp [hlen,ht]
        · rw [if_neg h1,if_neg (fun h=>h1 h.symm)]
      rw [hbox]
      by_cases h1:t = n
      · subst h1
        rw [if_pos rfl,ih,if_neg (by omega),if_pos ⟨by omega,hnf⟩]
      · rw [if_neg h1,ih]
        by_cases h2:t < n∧t ≠ f
        · rw [if_pos h2,if_pos ⟨by omega,h2.2⟩]
        · rw [if_neg h2,if_neg (by omega)]
theorem takes_teller {p:PK} {x:KC} (h:KK.takes p x = true) (cw:Cw x.fc):Teller p.s.fEnvs x:=by
  unfold KK.takes at h
  split at h
  · cases h
  · rename_i hc
    simp only [not_or] at hc
    exact ⟨by unfold Tk; omega,by simpa using hc.1,cw⟩
theorem fy.tell {k:KK} (I:fy k) (hn:(k.epochs.1.length:Int) + 1 ≤ k.now) {c:Nat} {x:KC} (hx:KK.call k c = some x) (hi:KK.is k c = true) (ht:KK.takes k.p x = true):fy (KK.send (KK.clean (KK.tell k c x) c) c x):=by
  have hc:c < k.calls.length:=by obtain ⟨n,e,h⟩:=ol hi; omega
  have hcx:=kcall_nat hx
  have T:=takes_teller ht (I.cw c x hcx)
  have okt:KK.Ok (KK.send (KK.clean (KK.tell k c x) c) c x):=by
    refine kok_send (kok_clean (kok_call I.ok c hx (y:={ x with ftold:=true }) rfl rfl) c) hn ?_ ?_
    · exact call_set_same hx
    · unfold KK.is at hi ⊢
      show decide ((0:Int) ≤ c∧(c:Int) < ((k.calls.set (c:Int).toNat _).length:Int)) = true
      rw [List.length_set]; exact hi
  have htT:∀ y,some y ∈ (KK.tell k c x).calls→y.ftold = true→Teller k.p.s.fEnvs y:=by
    intro y hy hty
    rcases List.mem_or_eq_of_mem_set hy with h | h
    · exact I.tell_all y h hty
    · cases h; exact ⟨T.t,T.k,T.w⟩
  have hcl:=clean_lines (k:=KK.tell k c x) I.en I.F htT (b:=gD k c) (I.tok c hc)
  have hlen:k.tlbs.length = k.calls.length:=by have:=I.ok.tl; have:=I.ok.cl; omega
  have hel:k.epochs.2.length = k.calls.length:=by have:=I.ok.el; have:=I.ok.cl; omega
  have hbl:k.boxes.length = k.calls.length:=by have:=I.ok.bl; have:=I.ok.cl; omega
  have he:Epochs.begin_ k.epochs c = (((k.epochs.1.length:Int) + 1,true),(k.epochs.1++[(c:Int)],k.epochs.2)):=by
    have:Epochs.is k.epochs c = true:=by unfold Epochs.is; exact decide_eq_true (by omega)
    exact if_pos this
  have dU:(k.calls.set c (some { x with ftold:=true })).set c (some { x with ftold:=true,fepoch:=(k.epochs.1.length:Int) + 1 }) = k.calls.set c (some { x with ftold:=true,fepoch:=(k.epochs.1.length:Int) + 1 }):=List.set_set ..
  have ek:KK.send (KK.clean (KK.tell k c x) c) c x = { k with tlbs:=k.tlbs.set c (KK.cleans (KK.tell k c x) (Tlb.lines (gD k c)) (gD k c)),epochs:=(k.epochs.1++[(c:Int)],k.epochs.2),calls:=k.calls.set c (some { x with ftold:=true,fepoch:=(k.epochs.1.length:Int) + 1 }),boxes:=(Mail.sends k.boxes c ((k.epochs.1.length:Int) + 1) k.boxes.length).2 }:=by
    unfold KK.send
    have e1:(KK.clean (KK.tell k c x) c).epochs = k.epochs:=rfl
    rw [e1,he]
    unfold KK.clean
    rw [kbuf_nat]
    simp only [KK.tell,Int.toNat_natCast,dU]
    rfl
  rw [ek] at okt ⊢
  have bufs:∀ a,gD { k with tlbs:=k.tlbs.set c (KK.cleans (KK.tell k c x) (Tlb.lines (gD k c)) (gD k c)),epochs:=(k.epochs.1++[(c:Int)],k.epochs.2),calls:=k.calls.set c (some { x with ftold:=true,fepoch:=(k.epochs.1.length:Int) + 1 }),boxes:=(Mail.sends k.boxes c ((k.epochs.1.length:Int) + 1) k.boxes.length).2 } a = if a = c then KK.cleans (KK.tell k c x) (Tlb.lines (gD k c)) (gD k c) else gD k a:=by
    intro a
    simp only [gD,List.getD_eq_getElem?_getD,List.getElem?_set]
    by_cases e:c = a
    · subst e; simp [hlen,hc]
    · rw [if_neg e,if_neg (fun h=>e h.symm)]
  have back:∀ (d:Nat) y,(k.calls.set c (some { x with ftold:=true,fepoch:=(k.epochs.1.length:Int) + 1 }))[d]? = some (some y)→(y = { x with ftold:=true,fepoch:=(k.epochs.1.length:Int) + 1 }∧d = c)∨(d ≠ c∧k.calls[d]? = some (some y)):=by
    intro d y hy
    rw [List.getElem?_set] at hy
    split at hy
    · rename_i e
      exact .inl ⟨by simpa using hy.symm,e.symm⟩
    · rename_i e
      exact .inr ⟨fun h=>e h.symm,hy⟩
  refine ⟨okt,I.F,fun d y hy=>?_,fun d y hy=>?_,fun a n ha hn hne=>?_,fun a=>?_,fun a ha=>?_,fun a ha l hl hle=>?_⟩
  · rcases back d y hy with ⟨rfl,_⟩ | ⟨_,h⟩
    · exact T.w
    · exact I.cw d y h
  · rcases back d y hy.1 with ⟨rfl,rfl⟩ | ⟨_,h⟩
    · refine ⟨⟨T.t,T.k⟩,by show (1:Int) ≤ (k.epochs.1.length:Int) + 1; omega,by simp,?_⟩
      show (k.epochs.1++[(d:Int)])[((k.epochs.1.length:Int) + 1 - 1).toNat]? = some (d:Int)
      rw [show ((k.epochs.1.length:Int) + 1 - 1).toNat = k.epochs.1.length from by omega]
      simp
    · have:=I.told d y ⟨h,hy.2⟩
      refine ⟨this.1,this.2.1,by simp; omega,?_⟩
      show (k.epochs.1++[(c:Int)])[(y.fepoch - 1).toNat]? = some (d:Int)
      rw [List.getElem?_append_left (by omega)]
      exact this.2.2.2
  · have ha':a < k.calls.length:=by simpa using ha
    have hbx:=sends_box (bs:=k.boxes) (f:=c) (by omega) ((k.epochs.1.length:Int) + 1) k.boxes.length (Nat.le_refl _) a (by omega)
    show (n:Int) + 1 ≤ heard k a∨((n:Int) + 1) ∈ Mail.box (Mail.sends k.boxes c ((k.epochs.1.length:Int) + 1) k.boxes.length).2 a
    rw [hbx]
    simp only [List.length_append,List.length_singleton] at hn
    by_cases hnl:n < k.epochs.1.length
    · rw [List.getElem?_append_left hnl] at hne
      rcases I.mail a n ha' hnl hne with h | h
      · exact .inl h
      · refine .inr ?_
        split
        · exact List.mem_append_left _ h
        · exact h
    · have hn2:n = k.epochs.1.length:=by omega
      subst hn2
      have hac:a ≠ c:=by
        rintro rfl
        apply hne
        show (k.epochs.1++[(a:Int)])[k.epochs.1.length]? = _
        simp
      rw [if_pos ⟨by omega,hac⟩]
      exact .inr (by simp)
  · have:=I.hi a
    show heard k a ≤ _
    simp; omega
  · rw [bufs]; split
    · exact hcl.1
    · exact I.tok a (by simpa using ha)
  · have ha':a < k.calls.length:=by simpa using ha
    rw [bufs] at hl
    by_cases e:a = c
    · rw [if_pos e] at hl
      obtain ⟨_,c1,c2⟩:=hcl.2 l hl hle
      refine ⟨c1,fun d y hy _=>?_⟩
      rcases back d y hy.1 with ⟨rfl,_⟩ | ⟨hd,h⟩
      · exact c2 { x with ftold:=true } (by simp only [KK.tell,Int.toNat_natCast]; exact List.mem_set hc _) rfl
      · refine c2 y ?_ hy.2
        simp only [KK.tell,Int.toNat_natCast]
        exact List.mem_of_getElem? (i:=d) (by rw [List.getElem?_set,if_neg (fun h=>hd h.symm)]; exact h)
    · rw [if_neg e] at hl
      have L:=I.line a ha' l hl hle
      refine ⟨L.cov,fun d y hy hh=>?_⟩
      rcases back d y hy.1 with ⟨rfl,rfl⟩ | ⟨_,h⟩
      · exfalso
        rcases hh with hh | hh
        · exact e hh
        · have:=I.hi a
          have hh':(k.epochs.1.length:Int) + 1 ≤ heard k a:=hh
          omega
      · exact L.stay d y ⟨h,hy.2⟩ hh
end Go.Proofs.YtemoifebbhoinaaGreatDoor
namespace Go.Proofs.YtemoifebbhoinaaGreatDoor
open Go Mb
theorem waitsFrom_nil {n o:Int}:∀ {l:List Int} {i:Int},Epochs.waitsFrom n o l i = []→∀ (j:Nat) (a:Int),l[j]? = some a→o ≠ i + j→n ≤ a
  | [],_,_,j,a,h,_=>by simp at h
  | b::l,i,h,j,a,hj,ho=>by
    rw [Epochs.waitsFrom] at h
    split at h
    · cases h
    · rename_i hc
      cases j with
      | zero =>
        simp at hj ho
        subst hj
        have:¬ b < n:=fun hlt=>hc ⟨hlt,ho⟩
        omega
      | succ j=>exact waitsFrom_nil h j a (by simpa using hj) (by omega)
theorem done_heard {k:KK} {n:Int} (h:Epochs.done k.epochs n = true) {c d:Nat} (hc:c < k.epochs.2.length) (ho:k.epochs.1[(n - 1).toNat]? = some (d:Int)) (hcd:c ≠ d):n ≤ heard k c:=by
  unfold Epochs.done at h
  simp only [Bool.and_eq_true,decide_eq_true_eq] at h
  obtain ⟨⟨h1,h2⟩,h3⟩:=h
  unfold Epochs.waits at h3
  rw [if_neg (by omega)] at h3
  have hov:k.epochs.1.getD (n - 1).toNat 0 = d:=by rw [List.getD_eq_getElem?_getD,ho]; rfl
  rw [hov] at h3
  have:=waitsFrom_nil h3 c _ (List.getElem?_eq_getElem hc) (by omega)
  unfold heard
  rw [List.getD_eq_getElem?_getD,List.getElem?_eq_getElem hc]
  exact this
theorem eqb_pte {p q:Pte} (h:am.eqb p q = true):p = q:=by
  cases p; cases q
  simp [am.eqb] at h
  simp [h]
theorem no_takes_stay {k:KK} (I:fy k) {x:KC} (cw:Cw x.fc) (h:KK.takes k.p x = false) (ht:Tk x.fc) (hk:Word.check x.fc k.p.s.fEnvs = 0) {a pg:Int} {l:jO} (hc:Cov (PK.q k.p a pg) l):Stay k.p x.fenv x.fc a pg (PK.q k.p a pg).fSlot l.fRights:=by
  have hne:(PK.q k.p a pg).fRights ≠ 0:=by have:=hc.r; omega
  obtain ⟨ho,hg,hq⟩:=PK.q_on hne
  obtain ⟨b1,b2⟩:=q_slot I.F hne
  unfold KK.takes at h
  rw [if_neg (by rw [hk]; unfold Tk at ht; simp; omega)] at h
  have h1:=PK.off_iff.1 ho
  have hpg:bt pg = true:=by
    by_cases hh:bt pg = true∧(Table.at_ (PK.tab k.p a) pg).fRights ≠ 0
    · exact hh.1
    · rw [Table.get_no hh] at hg; cases hg
  obtain ⟨n,rfl,hn⟩:=mJ hpg
  obtain ⟨m,rfl⟩:=Int.eq_ofNat_of_zero_le h1.1
  have hhit:KK.hits k.p x m n = false:=by
    have h2:=List.any_eq_false.1 h m (List.mem_range.2 (by omega))
    simp only [Bool.not_eq_true] at h2
    have h3:=List.any_eq_false.1 h2 n (List.mem_range.2 hn)
    simpa using h3
  unfold KK.hits at hhit
  rw [PK.pte_snd,decide_eq_true hne,Bool.true_and] at hhit
  have he:am.eqb (KK.left k.p x m n (PK.q k.p m n)) (PK.q k.p m n) = true:=by simpa [PK.q] using hhit
  have heq:KK.left k.p x m n (PK.q k.p m n) = PK.q k.p m n:=by
    exact eqb_pte he
  have L:=(left_cov (l:=l) (pg:=(n:Int)) I.en ⟨ht,hk,cw⟩ b1 b2).1
  exact (L.1 (heq.symm ▸ hc)).2
theorem fy.work {k:KK} (I:fy k) (hn:(k.epochs.1.length:Int) + 1 ≤ k.now) {c:Nat} {x:KC} (hx:KK.call k c = some x) (hi:KK.is k c = true):fy (KK.work k c x):=by
  have hc:c < k.calls.length:=by obtain ⟨n,e,h⟩:=ol hi; omega
  have hcx:=kcall_nat hx
  have cw:=I.cw c x hcx
  unfold KK.work
  split
  · exact ends_inv (I.access hc x).1 _ _ _
  · split
    · rename_i h
      exact I.tell hn hx hi h.2
    · rename_i hnt
      split
      · exact I
      · rename_i hnd
        have E:fy { k with p:=(PK.do_ k.p x.fenv x.fc).2 }:=by
          refine I.effect cw fun ht ho hk a ha l hl he=>?_
          have L:=I.line a ha l hl he
          cases hto:x.ftold with
          | false =>
            have htk:KK.takes k.p x = false:=by
              cases h:KK.takes k.p x with
              | false=>rfl
              | true=>exact absurd ⟨hto,h⟩ hnt
            exact no_takes_stay I cw htk ht hk L.cov
          | true =>
            have hd:Epochs.done k.epochs x.fepoch = true:=by
              cases h:Epochs.done k.epochs x.fepoch with
              | true=>rfl
              | false=>exact absurd ⟨hto,h⟩ hnd
            have htell:Tells k c x:=⟨hcx,hto⟩
            refine L.stay c x htell ?_
            by_cases e:a = c
            · exact .inl e
            · have hel:k.epochs.2.length = k.calls.length:=by have:=I.ok.el; have:=I.ok.cl; omega
              exact .inr (done_heard hd (by omega) (I.told c x htell).2.2.2 e)
        split
        · exact ends_inv E _ _ _
        · exact E
theorem fy.tick {k:KK} (I:fy k) (hn:k.now < 2 ^ 40):fy (KK.tick k):=I.same (kok_tick I.ok hn) rfl rfl rfl rfl rfl
theorem fy.step {k:KK} (I:fy k) (hn:k.now < 2 ^ 40) (c:Int):fy (KK.step k c).2:=by
  unfold KK.step
  split
  · exact I
  · rename_i hb
    obtain ⟨hi,x,hx⟩:=busy_is (by simpa using hb)
    rw [hx]
    obtain ⟨n,rfl,_⟩:=ol hi
    have h3:=I.ok.epn
    exact (I.tick hn).work (by show _ ≤ IntKind.i64.wrap (k.now + 1); rw [wrapN I.ok.n0 hn]; simp only [KK.tick]; omega) hx hi
theorem fy.begin {k:KK} (I:fy k) (hn:k.now < 2 ^ 40) (core env:Int) {c:dc} (cw:Cw c):fy (KK.begin_ k core env c).2:=by
  have okb:=kok_begin I.ok hn core env c
  unfold KK.begin_ at okb ⊢
  split
  · exact I
  · rename_i h
    rw [if_neg h] at okb
    exact I.put okb (c:=core.toNat) (o:=some ⟨k.events.length,env,c,false,0⟩) (fun x hx=>by cases hx; exact ⟨rfl,cw⟩) rfl rfl rfl rfl rfl
theorem heard_set {k:KK} {e1 e2:List Int} {c:Nat} (hc:c < e2.length) (v:Int) (a:Nat) (h:k.epochs = (e1,e2.set c v)):heard k a = if a = c then v else e2.getD a 0:=by
  unfold heard
  rw [h]
  simp only [List.getD_eq_getElem?_getD,List.getElem?_set]
  by_cases e:c = a
  · subst e; simp [hc]
  · rw [if_neg e,if_neg (fun h=>e h.symm)]
theorem fy.post {k:KK} (I:fy k) (hn:k.now < 2 ^ 40) (c:Int):fy (KK.post k c).2:=by
  have okp:=kok_post I.ok hn c
  unfold KK.post at okp ⊢
  split
  · exact I
  · rename_i h
    obtain ⟨c,rfl,hlt⟩:=ol (by simpa using h)
    split
    · exact I
    · rename_i ht
      rw [if_neg h,if_neg ht] at okp
      have hel:k.epochs.2.length = k.calls.length:=by have:=I.ok.el; have:=I.ok.cl; omega
      have hbl:k.boxes.length = k.calls.length:=by have:=I.ok.bl; have:=I.ok.cl; omega
      have hlen:k.tlbs.length = k.calls.length:=by have:=I.ok.tl; have:=I.ok.cl; omega
      have htk:Mail.take k.boxes c = (((Mail.box k.boxes c).getD 0 0,true),k.boxes.set c ((Mail.box k.boxes c).drop 1))∧0 < (Mail.box k.boxes c).length:=by
        unfold Mail.take at ht ⊢
        by_cases hw:Mail.waits k.boxes c = 0
        · rw [if_pos hw] at ht; exact absurd rfl ht
        · rw [if_neg hw]
          refine ⟨by simp,?_⟩
          unfold Mail.waits at hw
          split at hw
          · omega
          · exact absurd rfl hw
      obtain ⟨htk,hpos⟩:=htk
      have hbx:=box_of I.ok.bx (c:Int)
      have hmem:(Mail.box k.boxes c).getD 0 0 ∈ Mail.box k.boxes c:=by
        rw [List.getD_eq_getElem?_getD,List.getElem?_eq_getElem hpos]
        exact List.getElem_mem hpos
      have hlo:=hbx.lo _ hmem
      have hhi:=hbx.hi _ hmem
      have hack:Epochs.ack k.epochs c ((Mail.box k.boxes c).getD 0 0) = (true,(k.epochs.1,k.epochs.2.set c (mx (heard k c) ((Mail.box k.boxes c).getD 0 0)))):=by
        unfold Epochs.ack
        rw [if_pos ⟨by unfold Epochs.is; exact decide_eq_true (by omega),by omega,by unfold Epochs.now; omega⟩]
        simp [heard]
      rw [htk] at okp ⊢
      have hcl:=clean_lines (k:=k) I.en I.F I.tell_all (b:=gD k c) (I.tok c hlt)
      have hsame:∀ (L:List jO) (b:Buf),KK.cleans { KK.tick k with boxes:=k.boxes.set c ((Mail.box k.boxes c).drop 1) } L b = KK.cleans k L b:=by
        intro L
        induction L with
        | nil=>intro b; rfl
        | cons d L ih =>
          intro b
          have hst:KK.stale { KK.tick k with boxes:=k.boxes.set c ((Mail.box k.boxes c).drop 1) } d = KK.stale k d:=rfl
          rw [KK.cleans,KK.cleans,hst,ih,ih]
      have ek:({ KK.clean { KK.tick k with boxes:=k.boxes.set c ((Mail.box k.boxes c).drop 1) } c with epochs:=(Epochs.ack k.epochs c ((Mail.box k.boxes c).getD 0 0)).2 }:KK) =
          { KK.tick k with tlbs:=k.tlbs.set c (KK.cleans k (Tlb.lines (gD k c)) (gD k c)),boxes:=k.boxes.set c ((Mail.box k.boxes c).drop 1),epochs:=(k.epochs.1,k.epochs.2.set c (mx (heard k c) ((Mail.box k.boxes c).getD 0 0))) }:=by
        rw [hack]
        unfold KK.clean
        rw [hsame]
        have:KK.buf { KK.tick k with boxes:=k.boxes.set c ((Mail.box k.boxes c).drop 1) } c = gD k c:=kbuf_nat k c
        rw [this]
        simp only [Int.toNat_natCast]
        rfl
      show fy _
      have okp':KK.Ok ({ KK.clean { KK.tick k with boxes:=k.boxes.set c ((Mail.box k.boxes c).drop 1) } c with epochs:=(Epochs.ack k.epochs c ((Mail.box k.boxes c).getD 0 0)).2 }:KK):=okp
      show fy ({ KK.clean { KK.tick k with boxes:=k.boxes.set c ((Mail.box k.boxes c).drop 1) } c with epochs:=(Epochs.ack k.epochs c ((Mail.box k.boxes c).getD 0 0)).2 }:KK)
      rw [ek] at okp' ⊢
      have hh:∀ a,heard { KK.tick k with tlbs:=k.tlbs.set c (KK.cleans k (Tlb.lines (gD k c)) (gD k c)),boxes:=k.boxes.set c ((Mail.box k.boxes c).drop 1),epochs:=(k.epochs.1,k.epochs.2.set c (mx (heard k c) ((Mail.box k.boxes c).getD 0 0))) } a = if a = c then mx (heard k c) ((Mail.box k.boxes c).getD 0 0) else heard k a:=fun a=>heard_set (c:=c) (by omega) _ a rfl
      have hbuf:∀ a,gD { KK.tick k with tlbs:=k.tlbs.set c (KK.cleans k (Tlb.lines (gD k c)) (gD k c)),boxes:=k.boxes.set c ((Mail.box k.boxes c).drop 1),epochs:=(k.epochs.1,k.epochs.2.set c (mx (heard k c) ((Mail.box k.boxes c).getD 0 0))) } a = if a = c then KK.cleans k (Tlb.lines (gD k c)) (gD k c) else gD k a:=by
        intro a
        simp only [gD,KK.tick,List.getD_eq_getElem?_getD,List.getElem?_set]
        by_cases e:c = a
        · subst e; simp [hlen,hlt]
        · rw [if_neg e,if_neg (fun h=>e h.symm)]
      have hmx:heard k c ≤ mx (heard k c) ((Mail.box k.boxes c).getD 0 0)∧(Mail.box k.boxes c).getD 0 0 ≤ mx (heard k c) ((Mail.box k.boxes c).getD 0 0)∧(mx (heard k c) ((Mail.box k.boxes c).getD 0 0) = heard k c∨mx (heard k c) ((Mail.box k.boxes c).getD 0 0) = (Mail.box k.boxes c).getD 0 0):=by unfold mx; split <;> omega
      refine ⟨okp',I.F,I.cw,I.told,fun a n ha hnn hne=>?_,fun a=>?_,fun a ha=>?_,fun a ha l hl he=>?_⟩
      · rw [hh]
        have hbox:Mail.box (k.boxes.set c ((Mail.box k.boxes c).drop 1)) a = if a = c then (Mail.box k.boxes c).drop 1 else Mail.box k.boxes a:=by
          simp only [Mail.box,Int.toNat_natCast,List.getD_eq_getElem?_getD,List.getElem?_set]
          by_cases e:c = a
          · subst e; simp [hbl,hlt]
          · rw [if_neg e,if_neg (fun h=>e h.symm)]
        show _∨_ ∈ Mail.box (k.boxes.set c ((Mail.box k.boxes c).drop 1)) a
        rw [hbox]
        have old:=I.mail a n ha hnn hne
        by_cases e:a = c
        · subst e
          rw [if_pos rfl,if_pos rfl]
          rcases old with h1 | h1
          · exact .inl (by omega)
          · cases hb:Mail.box k.boxes a with
            | nil=>rw [hb] at h1; cases h1
            | cons b bs =>
              rw [hb] at h1 hmx
              simp only [List.getD_cons_zero] at hmx
              rcases List.mem_cons.1 h1 with h2 | h2
              · exact .inl (by simp only [List.getD_cons_zero]; omega)
              · exact .inr (by simpa using h2)
        · rw [if_neg e,if_neg e]; exact old
      · rw [hh]
        have h1:=I.hi a
        have h2:=I.hi c
        split
        · show _ ≤ (k.epochs.1.length:Int); omega
        · exact h1
      · rw [hbuf]; split
        · exact hcl.1
        · exact I.tok a ha
      · rw [hbuf] at hl
        by_cases e:a = c
        · rw [if_pos e] at hl
          obtain ⟨_,c1,c2⟩:=hcl.2 l hl he
          exact ⟨c1,fun d y hy _=>c2 y (tells_mem hy) hy.2⟩
        · rw [if_neg e] at hl
          have L:=I.line a ha l hl he
          refine ⟨L.cov,fun d y hy hhe=>L.stay d y hy ?_⟩
          rcases hhe with h1 | h1
          · exact .inl h1
          · rw [hh,if_neg e] at h1; exact .inr h1
end Go.Proofs.YtemoifebbhoinaaGreatDoor
namespace Go.Proofs.YtemoifebbhoinaaGreatDoor
open Go Mb
structure Ev1 (k:KK) (e:bA):Prop where
  c0:0 ≤ e.fCore
  c1:e.fCore < k.p.s.fCores
  v0:0 ≤ e.fEnv
  v1:e.fEnv < k.p.s.fEnvs
  b0:1 ≤ e.fBegin
  b1:e.fBegin ≤ k.now
  st:(e.fEffect = 0∧e.fEnd = 0)∨(e.fBegin < e.fEffect∧e.fEnd = e.fEffect∧e.fEffect ≤ k.now)
structure jo (k:KK):Prop where
  one:∀ (i:Nat) e,k.events[i]? = some e→Ev1 k e
  up:∀ (i j:Nat) d e,i < j→k.events[i]? = some d→k.events[j]? = some e→d.fBegin < e.fBegin
  ef:∀ (i j:Nat) d e,k.events[i]? = some d→k.events[j]? = some e→d.fEffect > 0→d.fEffect = e.fEffect→i = j
  co:∀ (i j:Nat) d e,i < j→k.events[i]? = some d→k.events[j]? = some e→d.fCore = e.fCore→d.fEnd > 0∧d.fEnd < e.fBegin
  call:∀ (c:Nat) x,k.calls[c]? = some (some x)→∃ n:Nat,x.fat = n∧∃ e,k.events[n]? = some e∧e.fCore = c∧e.fEnv = x.fenv∧e.fCall = x.fc∧e.fEffect = 0
  open_:∀ (i:Nat) e,k.events[i]? = some e→e.fEffect = 0→∃ x,k.calls[e.fCore.toNat]? = some (some x)∧x.fat = i
theorem evinv_new (s:eY):jo (KK.new s):=by
  have hn:∀ i:Nat,(KK.new s).events[i]? = none:=fun i=>by simp [KK.new]
  refine ⟨fun i e h=>?_,fun i j d e _ h _=>?_,fun i j d e h _ _ _=>?_,fun i j d e _ h _ _=>?_,fun c x h=>absurd h (rZ s c x),fun i e h _=>?_⟩ <;> (rw [hn] at h; cases h)
theorem Ev1.later {k k':KK} {e:bA} (h:Ev1 k e) (hs:k'.p.s = k.p.s) (hn:k.now ≤ k'.now):Ev1 k' e :=
  ⟨h.c0,by rw [hs]; exact h.c1,h.v0,by rw [hs]; exact h.v1,h.b0,by have:=h.b1; omega,by rcases h.st with a | a; exact .inl a; exact .inr ⟨a.1,a.2.1,by omega⟩⟩
theorem jo.same {k k':KK} (E:jo k) (he:k'.events = k.events) (hs:k'.p.s = k.p.s) (hn:k.now ≤ k'.now) (h1:∀ (c:Nat) x,k'.calls[c]? = some (some x)→∃ y,k.calls[c]? = some (some y)∧y.fat = x.fat∧y.fenv = x.fenv∧y.fc = x.fc) (h2:∀ (c:Nat) x,k.calls[c]? = some (some x)→∃ y,k'.calls[c]? = some (some y)∧y.fat = x.fat):jo k':=by
  refine ⟨fun i e h=>?_,fun i j d e hij h h'=>?_,fun i j d e h h'=>?_,fun i j d e hij h h'=>?_,fun c x hx=>?_,fun i e h h0=>?_⟩
  · rw [he] at h; exact (E.one i e h).later hs hn
  · rw [he] at h h'; exact E.up i j d e hij h h'
  · rw [he] at h h'; exact E.ef i j d e h h'
  · rw [he] at h h'; exact E.co i j d e hij h h'
  · obtain ⟨y,hy,e1,e2,e3⟩:=h1 c x hx
    obtain ⟨n,hn1,e,g1,g2,g3,g4,g5⟩:=E.call c y hy
    exact ⟨n,e1 ▸ hn1,e,by rw [he]; exact g1,g2,e2 ▸ g3,e3 ▸ g4,g5⟩
  · rw [he] at h
    obtain ⟨x,hx,e1⟩:=E.open_ i e h h0
    obtain ⟨y,hy,e2⟩:=h2 _ x hx
    exact ⟨y,hy,e2.trans e1⟩
theorem jo.begin {k:KK} (E:jo k) (ok:KK.Ok k) (hn:k.now < 2 ^ 40) (core env:Int) (c:dc):jo (KK.begin_ k core env c).2:=by
  unfold KK.begin_
  split
  · exact E
  · rename_i h
    simp only [not_or,Bool.not_eq_false,Bool.not_eq_true] at h
    obtain ⟨hi,hb,h0,h1⟩:=h
    obtain ⟨n,rfl,hlt⟩:=ol hi
    have hnone:k.calls[n]? = some none:=by
      cases hx:k.calls[n]? with
      | none=>rw [List.getElem?_eq_getElem hlt] at hx; cases hx
      | some o =>
        cases o with
        | none=>rfl
        | some x =>
          exfalso
          unfold KK.busy at hb
          rw [hi] at hb
          have:KK.call k n = some x:=by unfold KK.call; rw [Int.toNat_natCast,List.getD_eq_getElem?_getD,hx]; rfl
          rw [this] at hb; cases hb
    have hw:=wrapN ok.n0 hn
    have hcl:=ok.cl
    rw [hw]
    have get:∀ (i:Nat) e,(k.events++[KK.ev0 n env c (k.now + 1)])[i]? = some e→(i < k.events.length∧k.events[i]? = some e)∨(i = k.events.length∧e = KK.ev0 n env c (k.now + 1)):=by
      intro i e he
      rcases Nat.lt_or_ge i k.events.length with h | h
      · rw [List.getElem?_append_left h] at he; exact .inl ⟨h,he⟩
      · rw [List.getElem?_append_right h] at he
        by_cases e0:i - k.events.length = 0
        · rw [e0] at he
          exact .inr ⟨by omega,by simpa using he.symm⟩
        · rw [List.getElem?_eq_none (by simp; omega)] at he; cases he
    have mk:∀ e,Ev1 k e→Ev1 { k with now:=k.now + 1,events:=k.events++[KK.ev0 n env c (k.now + 1)],calls:=k.calls.set n (some ⟨k.events.length,env,c,false,0⟩) } e:=fun e h=>h.later rfl (by show k.now ≤ k.now + 1; omega)
    have cget:∀ (a:Nat) x,(k.calls.set n (some (⟨k.events.length,env,c,false,0⟩:KC)))[a]? = some (some x)→(a = n∧x = ⟨k.events.length,env,c,false,0⟩)∨(a ≠ n∧k.calls[a]? = some (some x)):=by
      intro a x hx
      rw [List.getElem?_set] at hx
      by_cases e:n = a
      · rw [if_pos e,if_pos hlt] at hx
        exact .inl ⟨e.symm,by simpa using hx.symm⟩
      · rw [if_neg e] at hx; exact .inr ⟨fun h=>e h.symm,hx⟩
    refine ⟨fun i e he=>?_,fun i j d e hij hd he=>?_,fun i j d e hd he hp heq=>?_,fun i j d e hij hd he hc=>?_,fun a x hx=>?_,fun i e he h00=>?_⟩
    · rcases get i e he with ⟨_,h⟩ | ⟨_,rfl⟩
      · exact mk e (E.one i e h)
      · exact ⟨by show (0:Int) ≤ n; omega,by show (n:Int) < k.p.s.fCores; omega,by show 0 ≤ env; omega,by show env < k.p.s.fEnvs; omega,by show 1 ≤ k.now + 1; have:=ok.n0; omega,Int.le_refl _,.inl ⟨rfl,rfl⟩⟩
    · rcases get j e he with ⟨hj,h⟩ | ⟨hj,rfl⟩
      · rcases get i d hd with ⟨_,h'⟩ | ⟨hi',_⟩
        · exact E.up i j d e hij h' h
        · omega
      · rcases get i d hd with ⟨_,h'⟩ | ⟨hi',_⟩
        · have:=(E.one i d h').b1
          show d.fBegin < k.now + 1; omega
        · omega
    · rcases get i d hd with ⟨_,h'⟩ | ⟨_,rfl⟩
      · rcases get j e he with ⟨_,h⟩ | ⟨_,rfl⟩
        · exact E.ef i j d e h' h hp heq
        · have:(KK.ev0 n env c (k.now + 1)).fEffect = 0:=rfl
          omega
      · have:(KK.ev0 n env c (k.now + 1)).fEffect = 0:=rfl
        omega
    · rcases get j e he with ⟨hj,h⟩ | ⟨hj,rfl⟩
      · rcases get i d hd with ⟨_,h'⟩ | ⟨hi',_⟩
        · exact E.co i j d e hij h' h hc
        · omega
      · rcases get i d hd with ⟨_,h'⟩ | ⟨hi',_⟩
        · have o:=E.one i d h'
          have hcc:d.fCore = n:=hc
          have hb1:=o.b1
          rcases o.st with s1 | s1
          · exfalso
            obtain ⟨x,hx,_⟩:=E.open_ i d h' s1.1
            rw [hcc,Int.toNat_natCast,hnone] at hx
            cases hx
          · have:=o.b0
            exact ⟨by omega,by show d.fEnd < k.now + 1; omega⟩
        · omega
    · rcases cget a x hx with ⟨rfl,rfl⟩ | ⟨_,h⟩
      · exact ⟨k.events.length,rfl,KK.ev0 a env c (k.now + 1),by simp,rfl,rfl,rfl,rfl⟩
      · obtain ⟨m,h2,e,g1,g2⟩:=E.call a x h
        refine ⟨m,h2,e,?_,g2⟩
        show (k.events++[_])[m]? = _
        rw [List.getElem?_append_left (List.getElem?_eq_some_iff.1 g1).1]; exact g1
    · rcases get i e he with ⟨_,h⟩ | ⟨hi',rfl⟩
      · obtain ⟨x,hx,e1⟩:=E.open_ i e h h00
        refine ⟨x,?_,e1⟩
        show (k.calls.set n _)[e.fCore.toNat]? = _
        rw [List.getElem?_set,if_neg]
        · exact hx
        · rintro e2
          rw [← e2,hnone] at hx; cases hx
      · refine ⟨⟨k.events.length,env,c,false,0⟩,?_,by rw [hi']⟩
        show (k.calls.set n _)[(n:Int).toNat]? = _
        simp [hlt]
theorem jo.ends {k:KK} (E:jo k) {c:Nat} {x:KC} (hx:k.calls[c]? = some (some x)) (hlate:∀ (i:Nat) e,k.events[i]? = some e→e.fBegin < k.now∧e.fEffect < k.now) (a:eM) (l:jO):jo (KK.ends k c x a l):=by
  obtain ⟨n,hn,e0,g1,g2,g3,g4,g5⟩:=E.call c x hx
  have hlt:=(List.getElem?_eq_some_iff.1 g1).1
  have hev:(KK.ends k c x a l).events = k.events.set n (KK.evend e0 k.now a l):=by
    unfold KK.ends
    rw [hn]
    simp only [Int.toNat_natCast,List.getD_eq_getElem?_getD,g1,Option.getD_some]
  have get:∀ (i:Nat) e,(k.events.set n (KK.evend e0 k.now a l))[i]? = some e→(i ≠ n∧k.events[i]? = some e)∨(i = n∧e = KK.evend e0 k.now a l):=by
    intro i e he
    rw [List.getElem?_set] at he
    by_cases h:n = i
    · rw [if_pos h,if_pos hlt] at he
      exact .inr ⟨h.symm,by simpa using he.symm⟩
    · rw [if_neg h] at he; exact .inl ⟨fun h'=>h h'.symm,he⟩
  have o0:=E.one n e0 g1
  have l0:=hlate n e0 g1
  have cls:(KK.ends k c x a l).calls = k.calls.set c none:=by simp [KK.ends]
  have cget:∀ (b:Nat) y,(k.calls.set c none)[b]? = some (some y)→b ≠ c∧k.calls[b]? = some (some y):=by
    intro b y hy
    rw [List.getElem?_set] at hy
    by_cases e:c = b
    · rw [if_pos e] at hy
      split at hy
      · cases hy
      · cases hy
    · rw [if_neg e] at hy; exact ⟨fun h=>e h.symm,hy⟩
  have b0:(KK.evend e0 k.now a l).fBegin = e0.fBegin:=rfl
  have b1:(KK.evend e0 k.now a l).fCore = e0.fCore:=rfl
  have b2:(KK.evend e0 k.now a l).fEffect = k.now:=rfl
  have b3:(KK.evend e0 k.now a l).fEnd = k.now:=rfl
  have b4:(KK.evend e0 k.now a l).fEnv = e0.fEnv:=rfl
  refine ⟨fun i e he=>?_,fun i j d e hij hd he=>?_,fun i j d e hd he hp heq=>?_,fun i j d e hij hd he hc=>?_,fun b y hy=>?_,fun i e he h00=>?_⟩
  · rw [hev] at he
    rcases get i e he with ⟨_,h⟩ | ⟨_,rfl⟩
    · exact (E.one i e h).later rfl (Int.le_refl _)
    · exact ⟨o0.c0,o0.c1,o0.v0,o0.v1,o0.b0,o0.b1,.inr ⟨l0.1,rfl,Int.le_refl _⟩⟩
  · rw [hev] at hd he
    have hd':∃ d',k.events[i]? = some d'∧d'.fBegin = d.fBegin:=by
      rcases get i d hd with ⟨_,h⟩ | ⟨rfl,rfl⟩
      · exact ⟨d,h,rfl⟩
      · exact ⟨e0,g1,rfl⟩
    have he':∃ e',k.events[j]? = some e'∧e'.fBegin = e.fBegin:=by
      rcases get j e he with ⟨_,h⟩ | ⟨rfl,rfl⟩
      · exact ⟨e,h,rfl⟩
      · exact ⟨e0,g1,rfl⟩
    obtain ⟨d',h1,h2⟩:=hd'
    obtain ⟨e',h3,h4⟩:=he'
    rw [← h2,← h4]; exact E.up i j d' e' hij h1 h3
  · rw [hev] at hd he
    rcases get i d hd with ⟨_,h⟩ | ⟨rfl,rfl⟩
    · rcases get j e he with ⟨_,h'⟩ | ⟨rfl,rfl⟩
      · exact E.ef i j d e h h' hp heq
      · have:=(hlate i d h).2
        rw [heq,b2] at this; omega
    · rcases get j e he with ⟨_,h'⟩ | ⟨rfl,rfl⟩
      · have:=(hlate j e h').2
        rw [← heq,b2] at this; omega
      · rfl
  · rw [hev] at hd he
    rcases get i d hd with ⟨_,h⟩ | ⟨rfl,rfl⟩
    · rcases get j e he with ⟨_,h'⟩ | ⟨rfl,rfl⟩
      · exact E.co i j d e hij h h' hc
      · exact E.co i j d e0 hij h g1 hc
    · rcases get j e he with ⟨_,h'⟩ | ⟨rfl,rfl⟩
      · have:=E.co i j e0 e hij g1 h' hc
        rcases o0.st with s1 | s1
        · omega
        · rw [g5] at s1; have:=o0.b0; omega
      · omega
  · rw [cls] at hy
    obtain ⟨hbc,hy⟩:=cget b y hy
    obtain ⟨m,h2,e,f1,f2,f3⟩:=E.call b y hy
    refine ⟨m,h2,e,?_,f2,f3⟩
    rw [hev,List.getElem?_set,if_neg]
    · exact f1
    · rintro rfl
      rw [g1] at f1
      cases f1
      omega
  · rw [hev] at he
    rcases get i e he with ⟨hne,h⟩ | ⟨_,rfl⟩
    · obtain ⟨y,hy,e1⟩:=E.open_ i e h h00
      refine ⟨y,?_,e1⟩
      rw [cls,List.getElem?_set,if_neg]
      · exact hy
      · intro e2
        rw [← e2,hx] at hy
        cases hy
        rw [hn] at e1
        exact hne (by omega)
    · have:=o0.b0
      rw [b2] at h00; omega
end Go.Proofs.YtemoifebbhoinaaGreatDoor
namespace Go.Proofs.YtemoifebbhoinaaGreatDoor
open Go Mb
structure IE (k:KK):Prop where
  inv:fy k
  ev:jo k
theorem ie_new {s:eY} (h:PK.sized s = true):IE (KK.new s):=⟨inv_new h,evinv_new s⟩
theorem IE.begin {k:KK} (A:IE k) (hn:k.now < 2 ^ 40) (core env:Int) {c:dc} (cw:Cw c):IE (KK.begin_ k core env c).2:=⟨A.inv.begin hn core env cw,A.ev.begin A.inv.ok hn core env c⟩
theorem IE.post {k:KK} (A:IE k) (hn:k.now < 2 ^ 40) (c:Int):IE (KK.post k c).2:=by
  have hI:=A.inv.post hn c
  have hw:=wrapN A.inv.ok.n0 hn
  have he:(KK.post k c).2.events = k.events∧(KK.post k c).2.p = k.p∧(KK.post k c).2.calls = k.calls∧k.now ≤ (KK.post k c).2.now:=by
    unfold KK.post
    split
    · exact ⟨rfl,rfl,rfl,Int.le_refl _⟩
    · split
      · exact ⟨rfl,rfl,rfl,Int.le_refl _⟩
      · exact ⟨rfl,rfl,rfl,by show k.now ≤ IntKind.i64.wrap (k.now + 1); omega⟩
  exact ⟨hI,A.ev.same he.1 (by rw [he.2.1]) he.2.2.2 (fun c x h=>⟨x,by rw [← he.2.2.1]; exact h,rfl,rfl,rfl⟩) (fun c x h=>⟨x,by rw [he.2.2.1]; exact h,rfl⟩)⟩
theorem do_wait {k:PK} {e:Int} {c:dc} (h:(PK.do_ k e c).1.2 = false):(PK.do_ k e c).2 = k:=by
  unfold PK.do_ at h ⊢
  split
  · rfl
  · rename_i h1
    rw [if_neg h1] at h
    split
    · rfl
    · rename_i h2
      rw [if_neg h2] at h
      unfold PK.does PK.errs at h ⊢
      repeat' split
      all_goals first | rfl | (exfalso; simp_all; done)
theorem access_keep (k:KK) (c:Int) (x:KC):(KK.access k c x).2.events = k.events∧(KK.access k c x).2.now = k.now∧(KK.access k c x).2.p.s = k.p.s∧(KK.access k c x).2.calls = k.calls∧(KK.access k c x).2.epochs = k.epochs:=by
  unfold KK.access
  split
  · exact ⟨rfl,rfl,rfl,rfl,rfl⟩
  · split
    · exact ⟨rfl,rfl,rfl,rfl,rfl⟩
    · exact ⟨rfl,rfl,touch_s _ _ _,rfl,rfl⟩
theorem work_ev {k:KK} (E:jo k) (hlate:∀ (i:Nat) e,k.events[i]? = some e→e.fBegin < k.now∧e.fEffect < k.now) {c:Nat} {x:KC} (hc:c < k.calls.length) (hcx:k.calls[c]? = some (some x)):jo (KK.work k c x):=by
  unfold KK.work
  by_cases hu:bT (aA x.fc).1 = true
  · rw [if_pos hu]
    obtain ⟨h1,h2,h3,h4,_⟩:=access_keep k c x
    have E2:jo (KK.access k c x).2:=E.same h1 h3 (by rw [h2]; exact Int.le_refl _) (fun d y h=>⟨y,by rw [← h4]; exact h,rfl,rfl,rfl⟩) (fun d y h=>⟨y,by rw [h4]; exact h,rfl⟩)
    exact E2.ends (by rw [h4]; exact hcx) (by rw [h1,h2]; exact hlate) _ _
  · rw [if_neg hu]
    split
    · refine E.same rfl rfl (Int.le_refl _) (fun d y h=>?_) (fun d y h=>?_)
      · simp only [KK.send,KK.clean,KK.tell,Int.toNat_natCast,List.set_set] at h
        rw [List.getElem?_set] at h
        split at h
        · rename_i e
          refine ⟨x,e ▸ hcx,?_⟩
          simp only [hc,if_true,Option.some.injEq] at h
          rw [← h]; exact ⟨rfl,rfl,rfl⟩
        · exact ⟨y,h,rfl,rfl,rfl⟩
      · simp only [KK.send,KK.clean,KK.tell,Int.toNat_natCast,List.set_set]
        rw [List.getElem?_set]
        by_cases e:c = d
        · subst e
          rw [hcx] at h
          cases h
          rw [if_pos rfl,if_pos hc]
          exact ⟨_,rfl,rfl⟩
        · rw [if_neg e]; exact ⟨y,h,rfl⟩
    · split
      · exact E
      · split
        · have E2:jo { k with p:=(PK.do_ k.p x.fenv x.fc).2 }:=E.same rfl (do_s _ _ _) (Int.le_refl _) (fun d y h=>⟨y,h,rfl,rfl,rfl⟩) (fun d y h=>⟨y,h,rfl⟩)
          exact E2.ends hcx hlate _ _
        · rename_i hdone
          rw [do_wait (by simpa using hdone)]
          exact E
theorem tick_now {k:KK} (ok:KK.Ok k) (hn:k.now < 2 ^ 40):(KK.tick k).now = k.now + 1:=wrapN ok.n0 hn
theorem tick_ev {k:KK} (ok:KK.Ok k) (E:jo k) (hn:k.now < 2 ^ 40):jo (KK.tick k):=E.same rfl rfl (by rw [tick_now ok hn]; omega) (fun c x h=>⟨x,h,rfl,rfl,rfl⟩) (fun c x h=>⟨x,h,rfl⟩)
theorem tick_late {k:KK} (ok:KK.Ok k) (E:jo k) (hn:k.now < 2 ^ 40):∀ (i:Nat) e,(KK.tick k).events[i]? = some e→e.fBegin < (KK.tick k).now∧e.fEffect < (KK.tick k).now:=fun i e h=>by
  have o:=E.one i e h
  rw [tick_now ok hn]
  have h1:=o.b1
  have h0:=o.b0
  rcases o.st with h2 | h2
  · exact ⟨by omega,by rw [h2.1]; omega⟩
  · exact ⟨by omega,by omega⟩
theorem IE.step {k:KK} (A:IE k) (hn:k.now < 2 ^ 40) (c:Int):IE (KK.step k c).2:=by
  refine ⟨A.inv.step hn c,?_⟩
  unfold KK.step
  split
  · exact A.ev
  · rename_i hb
    obtain ⟨hi,x,hx⟩:=busy_is (by simpa using hb)
    rw [hx]
    obtain ⟨n,rfl,hlt⟩:=ol hi
    exact work_ev (tick_ev A.inv.ok A.ev hn) (tick_late A.inv.ok A.ev hn) (by show n < k.calls.length; omega) (kcall_nat hx)
end Go.Proofs.YtemoifebbhoinaaGreatDoor
namespace Go.Proofs.YtemoifebbhoinaaGreatDoor
open Go Mb
theorem do_done {k:PK} {e:Int} {c:dc} (cw:Cw c) (h9:c.e0 ≠ 9) (hn:1 ≤ k.s.fEnvs∧k.s.fEnvs ≤ 4):(PK.do_ k e c).1.2 = true:=by
  by_cases hb:PK.off k e = true∨Word.check c k.s.fEnvs ≠ 0
  · exact (PK.do_bad hb).2.1
  · simp only [not_or,Bool.not_eq_true,Decidable.not_not] at hb
    have w:=tL hn.1 hn.2 hb.2
    rw [PK.do_good hb.1 hb.2]
    unfold PK.does PK.errs
    rw [PK.w0 w]
    repeat' split
    all_goals first | rfl | (exfalso; omega)
theorem waitsFrom_none {n o:Int}:∀ {l:List Int} {i:Int},(∀ (j:Nat) (a:Int),l[j]? = some a→o ≠ i + j→n ≤ a)→Epochs.waitsFrom n o l i = []
  | [],_,_=>rfl
  | b::l,i,h=>by
    rw [Epochs.waitsFrom,if_neg]
    · exact waitsFrom_none fun j a hj ho=>h (j + 1) a (by simpa using hj) (by omega)
    · rintro ⟨h1,h2⟩
      have:=h 0 b rfl (by simpa using h2)
      omega
theorem done_of {k:KK} {n:Int} {d:Nat} (h1:1 ≤ n) (h2:n ≤ k.epochs.1.length) (ho:k.epochs.1[(n - 1).toNat]? = some (d:Int)) (h:∀ c,c < k.epochs.2.length→c ≠ d→n ≤ heard k c):Epochs.done k.epochs n = true:=by
  unfold Epochs.done
  simp only [Bool.and_eq_true,decide_eq_true_eq]
  refine ⟨⟨h1,h2⟩,?_⟩
  unfold Epochs.waits
  rw [if_neg (by unfold Epochs.now; omega)]
  have hov:k.epochs.1.getD (n - 1).toNat 0 = d:=by rw [List.getD_eq_getElem?_getD,ho]; rfl
  rw [hov]
  refine waitsFrom_none fun j a hj hne=>?_
  have hlt:=(List.getElem?_eq_some_iff.1 hj).1
  have:=h j hlt (by omega)
  unfold heard at this
  rw [List.getD_eq_getElem?_getD,hj] at this
  exact this
structure Closed (P:KK→Prop):Prop where
  inv:∀ {k:KK},P k→fy k
  post:∀ {k:KK},P k→k.now < 2 ^ 40→∀ c:Int,P (KK.post k c).2
  step:∀ {k:KK},P k→k.now < 2 ^ 40→∀ c:Int,P (KK.step k c).2
variable {P:KK→Prop}
structure Posted (k k':KK) (c:Nat):Prop where
  calls:k'.calls = k.calls
  own:k'.epochs.1 = k.epochs.1
  p:k'.p = k.p
  events:k'.events = k.events
  up:∀ d,heard k d ≤ heard k' d
  now:k'.now = k.now + 1
  box:Mail.box k'.boxes c = (Mail.box k.boxes c).drop 1
theorem post_posted {k:KK} (A:fy k) (hn:k.now < 2 ^ 40) {c:Nat} (h:0 < KK.mail k c):Posted k (KK.post k c).2 c:=by
  have hi:KK.is k c = true:=by
    unfold KK.mail at h; split at h
    · assumption
    · omega
  unfold KK.mail at h
  rw [if_pos hi] at h
  have hw:Mail.waits k.boxes c ≠ 0:=by omega
  obtain ⟨n,e1,hlt⟩:=ol hi
  have hlt:c < k.calls.length:=by omega
  have hbl:k.boxes.length = k.calls.length:=by have:=A.ok.bl; have:=A.ok.cl; omega
  have hel:k.epochs.2.length = k.calls.length:=by have:=A.ok.el; have:=A.ok.cl; omega
  have htk:Mail.take k.boxes c = (((Mail.box k.boxes c).getD 0 0,true),k.boxes.set c ((Mail.box k.boxes c).drop 1)):=by
    unfold Mail.take; rw [if_neg hw]; simp
  have ht:=tick_now A.ok hn
  unfold KK.post
  rw [if_neg (by rw [hi]; simp),htk,if_neg (by simp)]
  refine ⟨rfl,?_,rfl,rfl,fun d=>?_,ht,?_⟩
  · show (Epochs.ack k.epochs c _).2.1 = _
    unfold Epochs.ack; split <;> rfl
  · show heard k d ≤ (Epochs.ack k.epochs c ((Mail.box k.boxes c).getD 0 0)).2.2.getD d 0
    unfold Epochs.ack
    split
    · show heard k d ≤ (k.epochs.2.set (c:Int).toNat (mx (k.epochs.2.getD (c:Int).toNat 0) _)).getD d 0
      simp only [Int.toNat_natCast,List.getD_eq_getElem?_getD,List.getElem?_set]
      by_cases e:c = d
      · subst e
        rw [if_pos rfl,if_pos (by omega)]
        unfold heard
        rw [List.getD_eq_getElem?_getD]
        show _ ≤ mx _ _
        unfold mx; split <;> omega
      · rw [if_neg e]
        unfold heard; rw [List.getD_eq_getElem?_getD]; exact Int.le_refl _
    · exact Int.le_refl _
  · show Mail.box (k.boxes.set c ((Mail.box k.boxes c).drop 1)) c = _
    simp only [Mail.box,Int.toNat_natCast,List.getD_eq_getElem?_getD,List.getElem?_set]
    rw [if_pos trivial,if_pos (by omega)]; rfl
structure Drained (P:KK→Prop) (k k':KK) (c n:Nat):Prop where
  all:P k'
  calls:k'.calls = k.calls
  own:k'.epochs.1 = k.epochs.1
  p:k'.p = k.p
  events:k'.events = k.events
  up:∀ d,heard k d ≤ heard k' d
  lo:k.now ≤ k'.now
  now:k'.now ≤ k.now + n
  box:Mail.box k'.boxes c = []
theorem mail_len {k:KK} {c:Nat} (ok:KK.Ok k) (hc:c < k.calls.length):KK.mail k c = ((Mail.box k.boxes c).length:Int):=by
  have hbl:k.boxes.length = k.calls.length:=by have:=ok.bl; have:=ok.cl; omega
  have hi:KK.is k c = true:=by unfold KK.is; exact decide_eq_true (by omega)
  unfold KK.mail Mail.waits
  rw [if_pos hi,if_pos (by unfold Mail.has; exact decide_eq_true (by omega))]
theorem drain_drained (hp:Closed P) {c:Nat}:∀ (n:Nat) {k:KK},P k→c < k.calls.length→(Mail.box k.boxes c).length ≤ n→k.now + n < 2 ^ 40→Drained P k (KK.drain c n k) c n
  | 0,k,A,hc,hl,hn=>⟨A,rfl,rfl,rfl,rfl,fun _=>Int.le_refl _,Int.le_refl _,by show k.now ≤ k.now + 0; omega,List.eq_nil_of_length_eq_zero (by show (Mail.box k.boxes c).length = 0; omega)⟩
  | n + 1,k,A,hc,hl,hn=>by
    rw [KK.drain]
    by_cases hm:0 < KK.mail k c
    · rw [if_pos hm]
      have Q:=post_posted (hp.inv A) (by omega) hm
      have A':=hp.post A (by omega) c
      have D:=drain_drained hp n A' (by rw [Q.calls]; exact hc) (by rw [Q.box,List.length_drop]; omega) (by rw [Q.now]; omega)
      have h1:=Q.now
      have h2:=D.now
      have h3:=D.lo
      exact ⟨D.all,D.calls.trans Q.calls,D.own.trans Q.own,D.p.trans Q.p,D.events.trans Q.events,fun d=>Int.le_trans (Q.up d) (D.up d),by omega,by omega,D.box⟩
    · rw [if_neg hm]
      rw [mail_len (hp.inv A).ok hc] at hm
      exact ⟨A,rfl,rfl,rfl,rfl,fun _=>Int.le_refl _,Int.le_refl _,by omega,List.eq_nil_of_length_eq_zero (by omega)⟩
structure Stepped (k k':KK) (c:Nat):Prop where
  other:∀ d,d ≠ c→k'.calls[d]? = k.calls[d]?
  len:k'.calls.length = k.calls.length
  own:∃ m,k'.epochs.1 = k.epochs.1++m∧m.length ≤ 1
  heard:∀ d,heard k' d = heard k d
theorem step_stepped {k:KK} (A:fy k) {c:Nat} {x:KC} (hc:c < k.calls.length) (hx:k.calls[c]? = some (some x)):Stepped k (KK.step k c).2 c ∧
    (x.fc.e0 ≠ 9→(KK.step k c).2.calls[c]? = some none∨∃ y,(KK.step k c).2.calls[c]? = some (some y)∧y.ftold = true∧y.fc = x.fc) ∧
    (x.ftold = true→Epochs.done k.epochs x.fepoch = true→(KK.step k c).2.calls[c]? = some none):=by
  have hi:KK.is k c = true:=by unfold KK.is; exact decide_eq_true (by omega)
  have hcall:KK.call k c = some x:=by unfold KK.call; rw [Int.toNat_natCast,List.getD_eq_getElem?_getD,hx]; rfl
  have hb:KK.busy k c = true:=by unfold KK.busy; rw [hi,hcall]; rfl
  have cw:=A.cw c x hx
  have hstep:(KK.step k c).2 = KK.work (KK.tick k) c x:=by unfold KK.step; rw [if_neg (by rw [hb]; simp),hcall]
  have ends_c:∀ (m:KK) (a:eM) (l:jO),m.calls = k.calls→(KK.ends m c x a l).calls = k.calls.set c none:=fun m a l h=>by unfold KK.ends; simp [h]
  have set_none:∀ d,d ≠ c→(k.calls.set c none)[d]? = k.calls[d]?:=fun d h=>by rw [List.getElem?_set,if_neg (fun e=>h e.symm)]
  have at_none:(k.calls.set c none)[c]? = some none:=by rw [List.getElem?_set,if_pos rfl,if_pos hc]
  have told_nu:x.ftold = true→¬ bT (aA x.fc).1 = true:=fun ht hu=>by
    have T:=A.teller ⟨hx,ht⟩
    have w:=tL A.en.1 A.en.2 T.k
    have:=T.t
    rw [vR w.kind] at hu
    unfold bT at hu
    unfold Tk at this
    simp at hu
    omega
  rw [hstep]
  unfold KK.work
  by_cases hu:bT (aA x.fc).1 = true
  · rw [if_pos hu]
    have ha:(KK.access (KK.tick k) c x).2.calls = k.calls∧(KK.access (KK.tick k) c x).2.epochs = k.epochs:=by
      unfold KK.access
      split
      · exact ⟨rfl,rfl⟩
      · split <;> exact ⟨rfl,rfl⟩
    have hcs:=ends_c (KK.access (KK.tick k) c x).2 (KK.access (KK.tick k) c x).1.1 (KK.access (KK.tick k) c x).1.2 ha.1
    have hep:(KK.ends (KK.access (KK.tick k) c x).2 c x (KK.access (KK.tick k) c x).1.1 (KK.access (KK.tick k) c x).1.2).epochs = k.epochs:=ha.2
    refine ⟨⟨fun d h=>by rw [hcs]; exact set_none d h,by rw [hcs]; simp,⟨[],by rw [hep]; simp,Nat.zero_le _⟩,fun d=>by unfold heard; rw [hep]⟩,fun _=>.inl (by rw [hcs]; exact at_none),fun ht=>absurd hu (told_nu ht)⟩
  · rw [if_neg hu]
    by_cases ht:x.ftold = false∧KK.takes (KK.tick k).p x = true
    · rw [if_pos ht]
      have hcs:(KK.send (KK.clean (KK.tell (KK.tick k) c x) c) c x).calls = k.calls.set c (some { x with ftold:=true,fepoch:=(Epochs.begin_ k.epochs c).1.1 }):=by
        simp only [KK.send,KK.clean,KK.tell,KK.tick,Int.toNat_natCast,List.set_set]
      have hep:(KK.send (KK.clean (KK.tell (KK.tick k) c x) c) c x).epochs = (Epochs.begin_ k.epochs c).2:=rfl
      have hel:k.epochs.2.length = k.calls.length:=by have:=A.ok.el; have:=A.ok.cl; omega
      have he:(Epochs.begin_ k.epochs c).2 = (k.epochs.1++[(c:Int)],k.epochs.2):=by
        have:Epochs.is k.epochs c = true:=by unfold Epochs.is; exact decide_eq_true (by omega)
        unfold Epochs.begin_
        rw [if_pos this]
      refine ⟨⟨fun d h=>by rw [hcs,List.getElem?_set,if_neg (fun e=>h e.symm)],by rw [hcs]; simp,⟨[(c:Int)],by rw [hep,he],Nat.le_refl _⟩,fun d=>by unfold heard; rw [hep,he]⟩,fun _=>.inr ⟨{ x with ftold:=true,fepoch:=(Epochs.begin_ k.epochs c).1.1 },by rw [hcs,List.getElem?_set,if_pos rfl,if_pos hc],rfl,rfl⟩,fun h=>by rw [ht.1] at h; cases h⟩
    · rw [if_neg ht]
      by_cases hd:x.ftold = true∧Epochs.done (KK.tick k).epochs x.fepoch = false
      · rw [if_pos hd]
        refine ⟨⟨fun d h=>rfl,rfl,⟨[],by simp [KK.tick],Nat.zero_le _⟩,fun d=>rfl⟩,fun _=>.inr ⟨x,hx,hd.1,rfl⟩,fun h1 h2=>?_⟩
        have:=hd.2
        rw [show (KK.tick k).epochs = k.epochs from rfl,h2] at this
        cases this
      · rw [if_neg hd]
        by_cases h9:x.fc.e0 = 9
        · have hnt:¬ x.ftold = true:=fun h=>by
            have:=(A.teller ⟨hx,h⟩).t
            unfold Tk at this; omega
          split
          · have hcs:=ends_c { KK.tick k with p:=(PK.do_ (KK.tick k).p x.fenv x.fc).2 } (PK.do_ (KK.tick k).p x.fenv x.fc).1.1 km rfl
            refine ⟨⟨fun d h=>by rw [hcs]; exact set_none d h,by rw [hcs]; simp,⟨[],by show k.epochs.1 = k.epochs.1++[]; simp,Nat.zero_le _⟩,fun d=>rfl⟩,fun h=>absurd h9 h,fun h=>absurd h hnt⟩
          · exact ⟨⟨fun d h=>rfl,rfl,⟨[],by show k.epochs.1 = k.epochs.1++[]; simp,Nat.zero_le _⟩,fun d=>rfl⟩,fun h=>absurd h9 h,fun h=>absurd h hnt⟩
        · have hdn:(PK.do_ (KK.tick k).p x.fenv x.fc).1.2 = true:=do_done cw h9 A.en
          rw [if_pos hdn]
          have hcs:=ends_c { KK.tick k with p:=(PK.do_ (KK.tick k).p x.fenv x.fc).2 } (PK.do_ (KK.tick k).p x.fenv x.fc).1.1 km rfl
          refine ⟨⟨fun d h=>by rw [hcs]; exact set_none d h,by rw [hcs]; simp,⟨[],by show k.epochs.1 = k.epochs.1++[]; simp,Nat.zero_le _⟩,fun d=>rfl⟩,fun _=>.inl (by rw [hcs]; exact at_none),fun _ _=>by rw [hcs]; exact at_none⟩
structure Turned (P:KK→Prop) (k k':KK) (c:Nat):Prop where
  all:P k'
  other:∀ d,d ≠ c→k'.calls[d]? = k.calls[d]?
  len:k'.calls.length = k.calls.length
  own:∃ m,k'.epochs.1 = k.epochs.1++m∧m.length ≤ 1
  up:∀ d,heard k d ≤ heard k' d
  self:∀ n:Nat,n < k.epochs.1.length→k.epochs.1[n]? ≠ some (c:Int)→(n:Int) + 1 ≤ heard k' c
  lo:k.now ≤ k'.now
  now:k'.now ≤ k.now + 5001
theorem busy_nat {k:KK} {c:Nat} (hc:c < k.calls.length):KK.busy k c = true↔∃ x,k.calls[c]? = some (some x):=by
  have hi:KK.is k c = true:=by unfold KK.is; exact decide_eq_true (by omega)
  unfold KK.busy KK.call
  rw [hi,Int.toNat_natCast,List.getD_eq_getElem?_getD,List.getElem?_eq_getElem hc]
  cases k.calls[c] with
  | none=>simp
  | some x=>simp
theorem turn_turned (hp:Closed P) {k:KK} (A:P k) {c:Nat} (hc:c < k.calls.length) (hb:k.epochs.1.length ≤ 5000) (hnow:k.now < 2 ^ 35):Turned P k (KK.turn1 k c).1 c∧((KK.turn1 k c).2 = true↔∃ x,k.calls[c]? = some (some x)) ∧
    (k.calls[c]? = some none→(KK.turn1 k c).1.calls[c]? = some none) ∧
    (∀ x,k.calls[c]? = some (some x)→x.fc.e0 ≠ 9→(KK.turn1 k c).1.calls[c]? = some none∨∃ y,(KK.turn1 k c).1.calls[c]? = some (some y)∧y.ftold = true∧y.fc = x.fc) ∧
    (∀ x,k.calls[c]? = some (some x)→x.ftold = true→(∀ d,d < k.calls.length→d ≠ c→x.fepoch ≤ heard k d)→(KK.turn1 k c).1.calls[c]? = some none):=by
  have hbox:(Mail.box k.boxes c).length ≤ 5000:=by
    have:=box_len (box_of (hp.inv A).ok.bx (c:Int))
    omega
  have D:=drain_drained hp 5000 A hc hbox (by omega)
  have hself:∀ n:Nat,n < k.epochs.1.length→k.epochs.1[n]? ≠ some (c:Int)→(n:Int) + 1 ≤ heard (KK.drain c 5000 k) c:=by
    intro n h1 h2
    rcases (hp.inv D.all).mail c n (by rw [D.calls]; exact hc) (by rw [D.own]; exact h1) (by rw [D.own]; exact h2) with h | h
    · exact h
    · rw [D.box] at h; cases h
  unfold KK.turn1
  have hd:(KK.drain (c:Int) 5000 k) = KK.drain c 5000 k:=rfl
  by_cases hbz:KK.busy (KK.drain c 5000 k) c = true
  · rw [if_pos hbz]
    dsimp only
    have hcd:c < (KK.drain c 5000 k).calls.length:=by rw [D.calls]; exact hc
    obtain ⟨x,hx⟩:=(busy_nat hcd).1 hbz
    obtain ⟨S,s1,s2⟩:=step_stepped (hp.inv D.all) hcd hx
    have hx':k.calls[c]? = some (some x):=by rw [← D.calls]; exact hx
    have hn:=KK.step_now (k:=KK.drain c 5000 k) (hp.inv D.all).ok.n0 (by have:=D.now; omega) c
    refine ⟨⟨hp.step D.all (by have:=D.now; omega) c,fun d h=>by rw [S.other d h,D.calls],by rw [S.len,D.calls],?_,fun d=>by rw [S.heard]; exact D.up d,fun n h1 h2=>by rw [S.heard]; exact hself n h1 h2,by have:=D.lo; omega,by have:=D.now; omega⟩,⟨fun _=>⟨x,hx'⟩,fun _=>rfl⟩,fun h=>(by rw [hx'] at h; cases h),fun y hy h9=>?_,fun y hy ht hh=>?_⟩
    · obtain ⟨m,hm,hl⟩:=S.own
      exact ⟨m,by rw [hm,D.own],hl⟩
    · rw [hx'] at hy; cases hy; exact s1 h9
    · rw [hx'] at hy; cases hy
      refine s2 ht ?_
      have T:=(hp.inv D.all).told c x ⟨hx,ht⟩
      have hel:(KK.drain c 5000 k).epochs.2.length = k.calls.length:=by have:=(hp.inv D.all).ok.el; have:=(hp.inv D.all).ok.cl; rw [D.calls] at this; omega
      exact done_of T.2.1 T.2.2.1 T.2.2.2 fun d hdl hne=>Int.le_trans (hh d (by omega) hne) (D.up d)
  · rw [if_neg hbz]
    dsimp only
    have hcd:c < (KK.drain c 5000 k).calls.length:=by rw [D.calls]; exact hc
    have hno:¬ ∃ x,k.calls[c]? = some (some x):=fun ⟨x,h⟩=>hbz ((busy_nat hcd).2 ⟨x,by rw [D.calls]; exact h⟩)
    refine ⟨⟨D.all,fun d _=>by rw [D.calls],by rw [D.calls],⟨[],by rw [D.own]; simp,Nat.zero_le _⟩,D.up,hself,D.lo,by have:=D.now; omega⟩,⟨fun h=>(by cases h),fun h=>absurd h hno⟩,fun h=>by rw [D.calls]; exact h,fun y hy=>absurd ⟨y,hy⟩ hno,fun y hy=>absurd ⟨y,hy⟩ hno⟩
end Go.Proofs.YtemoifebbhoinaaGreatDoor
namespace Go.Proofs.YtemoifebbhoinaaGreatDoor
open Go Mb
variable {P:KK→Prop}
structure Swept (P:KK→Prop) (n c:Nat) (k k':KK) (b b':Bool):Prop where
  all:P k'
  len:k'.calls.length = k.calls.length
  own:∃ m,k'.epochs.1 = k.epochs.1++m∧m.length ≤ n
  up:∀ d,heard k d ≤ heard k' d
  lo:k.now ≤ k'.now
  now:k'.now ≤ k.now + n * 5001
  other:∀ d:Nat,d < c∨c + n ≤ d→k'.calls[d]? = k.calls[d]?
  none_:∀ d:Nat,k.calls[d]? = some none→k'.calls[d]? = some none
  busy:b' = true↔b = true∨∃ (d:Nat) (x:KC),c ≤ d∧d < c + n∧k.calls[d]? = some (some x)
  self:∀ d:Nat,c ≤ d→d < c + n→d < k.calls.length→∀ m:Nat,m < k.epochs.1.length→k.epochs.1[m]? ≠ some (d:Int)→(m:Int) + 1 ≤ heard k' d
  told:∀ (d:Nat) x,c ≤ d→d < c + n→k.calls[d]? = some (some x)→x.fc.e0 ≠ 9→k'.calls[d]? = some none∨∃ y,k'.calls[d]? = some (some y)∧y.ftold = true∧y.fc = x.fc∧∀ e,d < e→e < c + n→e < k.calls.length→y.fepoch ≤ heard k' e
  fin:∀ (d:Nat) x,c ≤ d→d < c + n→k.calls[d]? = some (some x)→x.ftold = true→(∀ e,e < k.calls.length→(e < c∨d < e)→x.fepoch ≤ heard k e)→k'.calls[d]? = some none
theorem turn_out {k:KK} {c:Nat} (hc:k.calls.length ≤ c):KK.turn1 k c = (k,false):=by
  have hi:KK.is k c = false:=by unfold KK.is; exact decide_eq_false (by omega)
  have hm:KK.mail k c = 0:=by unfold KK.mail; rw [hi]; rfl
  have hd:KK.drain (c:Int) 5000 k = k:=by
    rw [show (5000:Nat) = 4999 + 1 from rfl,KK.drain,if_neg (by rw [hm]; omega)]
  have hb:KK.busy k c = false:=by unfold KK.busy; rw [hi]; rfl
  unfold KK.turn1
  rw [hd,if_neg (by rw [hb]; decide)]
theorem qF (hp:Closed P):∀ (n:Nat) {c:Nat} {k:KK} (b:Bool),P k→k.epochs.1.length + n ≤ 5000→k.now + n * 5001 < 2 ^ 35→Swept P n c k (KK.sweep n c k b).1 b (KK.sweep n c k b).2
  | 0,c,k,b,A,_,_=>⟨A,rfl,⟨[],by simp [KK.sweep],Nat.zero_le _⟩,fun _=>Int.le_refl _,Int.le_refl _,by simp [KK.sweep],fun _ _=>rfl,fun _ h=>h,⟨fun h=>.inl h,fun h=>by
      rcases h with h | ⟨d,x,h1,h2,_⟩
      · exact h
      · omega⟩,fun d h1 h2=>by omega,fun d x h1 h2=>by omega,fun d x h1 h2=>by omega⟩
  | n + 1,c,k,b,A,hl,hn=>by
    have hI:=hp.inv A
    have e1:KK.sweep (n + 1) c k b = KK.sweep n ((c + 1:Nat):Int) (KK.turn1 k c).1 ((KK.turn1 k c).2 || b):=rfl
    rw [e1]
    rcases Nat.lt_or_ge c k.calls.length with hc | hc
    · obtain ⟨T,t1,t2,t3,t4⟩:=turn_turned hp A hc (by omega) (by omega)
      obtain ⟨m1,hm1,hl1⟩:=T.own
      have hn1:=T.now
      have hlo1:=T.lo
      have S:=qF hp n (c:=c + 1) ((KK.turn1 k c).2 || b) T.all (by rw [hm1,List.length_append]; omega) (by omega)
      obtain ⟨m2,hm2,hl2⟩:=S.own
      have hn2:=S.now
      have hlo2:=S.lo
      have own1:∀ m:Nat,m < k.epochs.1.length→(KK.turn1 k c).1.epochs.1[m]? = k.epochs.1[m]?:=fun m h=>by rw [hm1,List.getElem?_append_left h]
      have len1:k.epochs.1.length ≤ (KK.turn1 k c).1.epochs.1.length:=by rw [hm1,List.length_append]; omega
      have hS:=S.self
      have hTl:=T.len
      refine ⟨S.all,S.len.trans T.len,⟨m1++m2,by rw [hm2,hm1,List.append_assoc],by rw [List.length_append]; omega⟩,fun d=>Int.le_trans (T.up d) (S.up d),by omega,by omega,fun d h=>?_,fun d h=>?_,?_,fun d h1 h2 h3 m h4 h5=>?_,fun d x h1 h2 h3 h4=>?_,fun d x h1 h2 h3 h4 h5=>?_⟩
      · rw [S.other d (by omega),T.other d (by omega)]
      · refine S.none_ d ?_
        by_cases e:d = c
        · subst e; exact t2 h
        · rw [T.other d e]; exact h
      · rw [S.busy,Bool.or_eq_true,t1]
        constructor
        · rintro ((⟨x,h⟩ | h) | ⟨d,x,h1,h2,h3⟩)
          · exact .inr ⟨c,x,Nat.le_refl _,by omega,h⟩
          · exact .inl h
          · rw [T.other d (by omega)] at h3
            exact .inr ⟨d,x,by omega,by omega,h3⟩
        · rintro (h | ⟨d,x,h1,h2,h3⟩)
          · exact .inl (.inr h)
          · by_cases e:d = c
            · subst e; exact .inl (.inl ⟨x,h3⟩)
            · exact .inr ⟨d,x,by omega,by omega,by rw [T.other d e]; exact h3⟩
      · by_cases e:d = c
        · subst e
          exact Int.le_trans (T.self m h4 h5) (S.up d)
        · exact hS d (by omega) (by omega) (by omega) m (by omega) (by rw [own1 m h4]; exact h5)
      · by_cases e:d = c
        · subst e
          rcases t3 x h3 h4 with h6 | ⟨y,h6,h7,h8⟩
          · exact .inl (by rw [S.other d (by omega)]; exact h6)
          · refine .inr ⟨y,by rw [S.other d (by omega)]; exact h6,h7,h8,fun e h9 h10 h11=>?_⟩
            have Q:=(hp.inv T.all).told d y ⟨h6,h7⟩
            have:=hS e (by omega) (by omega) (by omega) (y.fepoch - 1).toNat (by omega) (by rw [Q.2.2.2]; intro h; injection h with h; omega)
            omega
        · rcases S.told d x (by omega) (by omega) (by rw [T.other d e]; exact h3) h4 with h6 | ⟨y,h6,h7,h8,h9⟩
          · exact .inl h6
          · exact .inr ⟨y,h6,h7,h8,fun e h10 h11 h12=>h9 e h10 (by omega) (by omega)⟩
      · by_cases e:d = c
        · subst e
          rw [S.other d (by omega)]
          exact t4 x h3 h4 fun a ha hne=>h5 a ha (by omega)
        · have Q:=hI.told d x ⟨h3,h4⟩
          refine S.fin d x (by omega) (by omega) (by rw [T.other d e]; exact h3) h4 fun a ha h=>?_
          by_cases e2:a = c
          · subst e2
            have:=T.self (x.fepoch - 1).toNat (by omega) (by rw [Q.2.2.2]; intro h; injection h with h; omega)
            omega
          · exact Int.le_trans (h5 a (by omega) (by omega)) (T.up a)
    · rw [turn_out hc]
      have S:=qF hp n (c:=c + 1) (false || b) A (by omega) (by omega)
      obtain ⟨m2,hm2,hl2⟩:=S.own
      have hn2:=S.now
      have hno:∀ (d:Nat) (o:Option KC),k.calls[d]? = some o→d < k.calls.length:=fun d o h=>(List.getElem?_eq_some_iff.1 h).1
      refine ⟨S.all,S.len,⟨m2,hm2,by omega⟩,S.up,S.lo,by show (KK.sweep n ((c + 1:Nat):Int) k (false || b)).1.now ≤ _; omega,fun d h=>?_,S.none_,?_,fun d h1 h2 h3=>by omega,fun d x h1 h2 h3 h4=>?_,fun d x h1 h2 h3 h4 h5=>?_⟩
      · rcases h with h | h
        · exact S.other d (by omega)
        · exact S.other d (by omega)
      · rw [S.busy]
        constructor
        · rintro (h | ⟨d,x,h1,h2,h3⟩)
          · exact .inl (by simpa using h)
          · exact .inr ⟨d,x,by omega,by omega,h3⟩
        · rintro (h | ⟨d,x,h1,h2,h3⟩)
          · exact .inl (by simpa using h)
          · have:=hno d _ h3; omega
      · have:=hno d _ h3; omega
      · have:=hno d _ h3; omega
structure Settled (P:KK→Prop) (cores:Nat) (k k':KK):Prop where
  all:P k'
  len:k'.calls.length = k.calls.length
  lo:k.now ≤ k'.now
  now:k'.now ≤ k.now + 3 * (cores * 5001)
  own:k'.epochs.1.length ≤ k.epochs.1.length + 3 * cores
  idle:∀ (d:Nat) x,k'.calls[d]? ≠ some (some x)
theorem settle_settled (hp:Closed P) {cores m:Nat} {k:KK} (A:P k) (hc:k.calls.length ≤ cores) (hc8:cores ≤ 8) (hl:k.epochs.1.length ≤ 4900) (hn:k.now < 2 ^ 34) (h9:∀ (d:Nat) x,k.calls[d]? = some (some x)→x.fc.e0 ≠ 9) :
    (KK.settle cores (m + 3) k).1 = true∧Settled P cores k (KK.settle cores (m + 3) k).2:=by
  have q1:cores * 5001 ≤ 8 * 5001:=Nat.mul_le_mul_right _ hc8
  have q2:((cores * 5001:Nat):Int) ≤ 8 * 5001:=by omega
  have q3:((cores * 5001:Nat):Int) = (cores:Int) * 5001:=by simp
  have inl:∀ {k:KK} {d:Nat} {o:Option KC},k.calls[d]? = some o→d < k.calls.length:=fun h=>(List.getElem?_eq_some_iff.1 h).1
  have none_of:∀ {k k':KK} {b b':Bool},Swept P cores 0 k k' b b'→k.calls.length ≤ cores→b' = false→∀ (d:Nat) x,k'.calls[d]? ≠ some (some x):=by
    intro k k' b b' S hk hb d x h
    have hd:=inl h
    have hk':=S.len
    rcases hcd:k.calls[d]? with _ | _ | y
    · rw [List.getElem?_eq_none_iff] at hcd; omega
    · rw [S.none_ d hcd] at h; cases h
    · have:b' = true:=S.busy.2 (.inr ⟨d,y,Nat.zero_le _,by omega,hcd⟩)
      rw [hb] at this; cases this
  have S1:=qF hp cores (c:=0) (k:=k) false A (by omega) (by omega)
  rw [show m + 3 = (m + 2) + 1 from rfl,KK.settle]
  rw [show KK.sweep cores 0 k false = KK.sweep cores ((0:Nat):Int) k false from rfl]
  generalize KK.sweep cores ((0:Nat):Int) k false = z1 at *
  obtain ⟨k1,b1⟩:=z1
  dsimp only at *
  obtain ⟨m1,hm1,hl1⟩:=S1.own
  have hl1':k1.epochs.1.length ≤ k.epochs.1.length + cores:=by rw [hm1,List.length_append]; omega
  have n1:=S1.now
  by_cases hb1:b1 = false
  · rw [if_pos hb1]
    exact ⟨rfl,S1.all,S1.len,S1.lo,by show k1.now ≤ _; omega,by show k1.epochs.1.length ≤ _; omega,none_of S1 hc hb1⟩
  · rw [if_neg hb1]
    have len1:=S1.len
    have S2:=qF hp cores (c:=0) (k:=k1) false S1.all (by omega) (by omega)
    have all1:∀ (d:Nat) x,k1.calls[d]? = some (some x)→x.ftold = true∧∀ e,d < e→e < k1.calls.length→x.fepoch ≤ heard k1 e:=by
      intro d x h
      have hd:=inl h
      rcases hcd:k.calls[d]? with _ | _ | y
      · rw [List.getElem?_eq_none_iff] at hcd; omega
      · rw [S1.none_ d hcd] at h; cases h
      · rcases S1.told d y (Nat.zero_le _) (by omega) hcd (h9 d y hcd) with h1 | ⟨z,h1,h2,h3,h4⟩
        · rw [h1] at h; cases h
        · rw [h1] at h; cases h
          exact ⟨h2,fun e he hl=>h4 e he (by omega) (by omega)⟩
    have idle2:∀ (d:Nat) x,(KK.sweep cores ((0:Nat):Int) k1 false).1.calls[d]? ≠ some (some x):=by
      intro d x h
      have hd:=inl h
      have len2:=S2.len
      rcases hcd:k1.calls[d]? with _ | _ | y
      · rw [List.getElem?_eq_none_iff] at hcd; omega
      · rw [S2.none_ d hcd] at h; cases h
      · obtain ⟨g1,g2⟩:=all1 d y hcd
        have:=S2.fin d y (Nat.zero_le _) (by omega) hcd g1 fun e he hh=>g2 e (by omega) he
        rw [this] at h; cases h
    rw [show m + 2 = (m + 1) + 1 from rfl,KK.settle]
    rw [show KK.sweep cores 0 k1 false = KK.sweep cores ((0:Nat):Int) k1 false from rfl]
    obtain ⟨m2,hm2,hl2⟩:=S2.own
    have hl2':(KK.sweep cores ((0:Nat):Int) k1 false).1.epochs.1.length ≤ k1.epochs.1.length + cores:=by rw [hm2,List.length_append]; omega
    have n2:=S2.now
    have o1:=S1.lo
    have o2:=S2.lo
    have len2:=S2.len
    generalize KK.sweep cores ((0:Nat):Int) k1 false = z2 at *
    obtain ⟨k2,b2⟩:=z2
    dsimp only at *
    by_cases hb2:b2 = false
    · rw [if_pos hb2]
      exact ⟨rfl,S2.all,by show k2.calls.length = _; omega,by show k.now ≤ k2.now; omega,by show k2.now ≤ _; omega,by show k2.epochs.1.length ≤ _; omega,idle2⟩
    · rw [if_neg hb2]
      have S3:=qF hp cores (c:=0) (k:=k2) false S2.all (by omega) (by omega)
      rw [show m + 1 = m + 1 from rfl,KK.settle]
      rw [show KK.sweep cores 0 k2 false = KK.sweep cores ((0:Nat):Int) k2 false from rfl]
      obtain ⟨m3,hm3,hl3⟩:=S3.own
      have hl3':(KK.sweep cores ((0:Nat):Int) k2 false).1.epochs.1.length ≤ k2.epochs.1.length + cores:=by rw [hm3,List.length_append]; omega
      have n3:=S3.now
      have o3:=S3.lo
      have len3:=S3.len
      have hb3:(KK.sweep cores ((0:Nat):Int) k2 false).2 = false:=by
        cases hz:(KK.sweep cores ((0:Nat):Int) k2 false).2 with
        | false=>rfl
        | true =>
          rcases S3.busy.1 hz with h | ⟨d,x,_,_,h⟩
          · cases h
          · exact absurd h (idle2 d x)
      rw [if_pos hb3]
      exact ⟨rfl,S3.all,by show (KK.sweep cores ((0:Nat):Int) k2 false).1.calls.length = _; omega,by show k.now ≤ (KK.sweep cores ((0:Nat):Int) k2 false).1.now; omega,by show (KK.sweep cores ((0:Nat):Int) k2 false).1.now ≤ _; omega,by show (KK.sweep cores ((0:Nat):Int) k2 false).1.epochs.1.length ≤ _; omega,none_of S3 (by omega) hb3⟩
end Go.Proofs.YtemoifebbhoinaaGreatDoor
namespace Go.Proofs.YtemoifebbhoinaaGreatDoor
open Go Mb
theorem mem_othersFrom {k:PK} {es:List bA} {env pg j:Int}:∀ {L:List Int},j ∈ L→Judge.takes (Judge.ev es j) = true→PK.q (PK.do_ k (Judge.ev es j).fEnv (Judge.ev es j).fCall).2 env pg ∈ Judge.othersFrom k es env pg L
  | i::L,h,ht=>by
    rw [Judge.othersFrom]
    rcases List.mem_cons.1 h with rfl | h
    · rw [if_pos ht]; exact List.mem_cons_self
    · have:=mem_othersFrom (k:=k) (env:=env) (pg:=pg) h ht
      split
      · exact List.mem_cons_of_mem _ this
      · exact this
theorem eqb_answer (a:eM):ab.eqb a a = true:=by simp [ab.eqb]
theorem eqb_line (a:jO):an.eqb a a = true:=by simp [an.eqb]
def wW (kind:Int):Int:=if kind = 20 then 1 else if kind = 21 then 2 else 3
theorem lets_need {kind:Int} (h:20 ≤ kind∧kind ≤ 23) (r:Int):cA r kind = aQ (wW kind) r:=by
  have:kind = 20∨kind = 21∨kind = 22∨kind = 23:=by omega
  rcases this with rfl | rfl | rfl | rfl <;> rfl
theorem left_frame {p:PK} {x:KC} {a pg:Int} {qq:Pte} (h:(KK.left p x a pg qq).fRights ≠ 0):(KK.left p x a pg qq).fFrame = qq.fFrame∧(KK.left p x a pg qq).fSlot = qq.fSlot:=by
  unfold KK.left at h ⊢
  by_cases h7:x.fc.e0 = 7
  · rw [if_pos h7] at h ⊢
    split
    · rename_i hh; rw [if_pos hh] at h; exact absurd rfl h
    · exact ⟨rfl,rfl⟩
  · rw [if_neg h7] at h ⊢
    by_cases h8:x.fc.e0 = 8
    · rw [if_pos h8]; split <;> exact ⟨rfl,rfl⟩
    · rw [if_neg h8] at h ⊢
      split
      · rename_i hh; rw [if_pos hh] at h; exact absurd rfl h
      · exact ⟨rfl,rfl⟩
theorem wQ {p:PK} {a pg:Int}:∀ (cs:List (Option KC)) (qq:Pte),KK.seenFrom p a pg cs false qq = (qq,false)
  | [],_=>rfl
  | none::cs,qq=>by rw [KK.seenFrom]; exact wQ cs qq
  | some x::cs,qq=>by rw [KK.seenFrom,if_neg (fun h=>Bool.false_ne_true h.1)]; exact wQ cs qq
theorem um {p:PK} {a pg:Int}:∀ (cs:List (Option KC)) (b:Bool) (qq:Pte),(KK.seenFrom p a pg cs b qq).1.fRights ≠ 0→(KK.seenFrom p a pg cs b qq).1.fFrame = qq.fFrame∧(KK.seenFrom p a pg cs b qq).1.fSlot = qq.fSlot
  | [],_,_,_=>⟨rfl,rfl⟩
  | none::cs,b,qq,h=>by rw [KK.seenFrom] at h ⊢; exact um cs b qq h
  | some x::cs,b,qq,h=>by
    rw [KK.seenFrom] at h ⊢
    by_cases hc:b = true∧x.ftold = true
    · rw [if_pos hc] at h ⊢
      by_cases hz:(KK.left p x a pg qq).fRights = 0
      · rw [hz] at h
        have:((0:Int) != 0) = false:=rfl
        rw [this,wQ] at h
        exact absurd hz h
      · obtain ⟨a1,a2⟩:=um cs _ _ h
        obtain ⟨b1,b2⟩:=left_frame hz
        exact ⟨a1.trans b1,a2.trans b2⟩
    · rw [if_neg hc] at h ⊢; exact um cs b qq h
theorem put_well {p:Pte} (h:0 ≤ p.fFrame∧p.fFrame < 16∧0 ≤ p.fSlot∧p.fSlot < 8) (hr:1 ≤ p.fRights∧p.fRights ≤ 3):(eV p).2 = true:=by
  unfold eV
  cases hq:am.eqb p ⟨0,0,0⟩ with
  | true=>rfl
  | false =>
    have:(((((decide (p.fFrame < 0)) || (decide (p.fFrame ≥ 16))) || (decide (p.fSlot < 0))) || (decide (p.fSlot ≥ 8))) || (!(cg p.fRights))) = false:=by
      rw [uz.2 hr]; simp; omega
    simp only [cond_false]
    rw [this]; rfl
theorem tabFor_seen {k:KK} (F:PK.Fine k.p) {e pg:Int} {l:jO} (hs:(KK.seen k e pg).2 = true) (hc:Cov (KK.seen k e pg).1 l) (hq:(PK.q k.p e pg).fRights ≠ 0):(Table.get (KK.tabFor k e pg) pg).1 = (KK.seen k e pg).1:=by
  have hr:=hc.r
  have hfs:(KK.seen k e pg).1.fFrame = (PK.q k.p e pg).fFrame∧(KK.seen k e pg).1.fSlot = (PK.q k.p e pg).fSlot:=by
    have h0:(KK.seen k e pg).1.fRights ≠ 0:=by omega
    unfold KK.seen at h0 ⊢
    exact um _ _ _ h0
  have hb:=F.by_ e pg hq
  have hcap:(Caps.get k.p.caps e (PK.q k.p e pg).fSlot).fRights ≠ 0:=by have:=(dk hb.2.2).2; omega
  have hf:=PK.fine_frame F.ok.fine hb.1 hcap
  have hsl:=(PK.has_iff F.ok).1 hb.1
  have hsz:=fQ.1 F.ok.sz
  obtain ⟨_,hg,_⟩:=PK.q_on hq
  have hpg:bt pg = true:=by
    by_cases hh:bt pg = true∧(Table.at_ (PK.tab k.p e) pg).fRights ≠ 0
    · exact hh.1
    · rw [Table.get_no hh] at hg; cases hg
  have hz:(Table.insert (List.replicate 8 dh) pg (KK.seen k e pg).1).1 = 0:=by
    unfold Table.insert
    have key:∀ n,n < 8→((List.replicate 8 dh).getD n dh).fRights = 0:=by decide
    obtain ⟨n,e1,hn⟩:=mJ hpg
    have hat:(Table.at_ (List.replicate 8 dh) pg).fRights = 0:=by unfold Table.at_; rw [e1,Int.toNat_natCast]; exact key n hn
    rw [if_neg,if_neg (by rw [hat]; simp)]
    rw [put_well (by rw [hfs.1,hfs.2,← hb.2.1]; omega) hr,hpg]
    simp; omega
  unfold KK.tabFor
  rw [if_pos hs,Table.get_insert (by simp) _ _ hz,if_pos rfl]
theorem stay_of_aft {p:PK} {e:Int} {c:dc} {a pg r:Int} (hq:(PK.q p a pg).fRights ≠ 0) (ht:Tk c) (h:aQ r (PK.aft p e c a pg).fRights = true):Stay p e c a pg (PK.q p a pg).fSlot r:=by
  have hno:∀ x:Pte,x = dh→aQ r x.fRights = true→False:=fun x e1 h1=>by
    have:=(dk h1).2; rw [e1] at this; simp at this
  unfold PK.aft at h
  refine ⟨fun h7 ho=>?_,fun h8 e1 e2 hw=>?_,fun h45=>?_⟩
  · rw [if_pos h7,if_pos ho] at h; exact hno _ rfl h
  · rw [if_neg (by omega),if_pos h8,if_pos ⟨⟨e1,e2⟩,by subst e1; subst e2; exact ⟨hq,hw⟩⟩] at h
    exact h
  · cases hg:PK.gz p e c a (PK.q p a pg).fSlot with
    | false=>rfl
    | true=>rw [if_neg (by omega),if_neg (by omega),if_pos ⟨hq,hg⟩] at h; exact (hno _ rfl h).elim
theorem kmem_has {fs:List (List Int)} {f a:Int} (h0:0 ≤ f) (h1:f < fs.length) (h2:0 ≤ a) (h3:a < 16):Mem.has fs f a:=⟨h0,h1,h2,h3⟩
theorem touch_well {k:PK} (ok:PK.Ok k) {f:Int} {c:dc} (cw:Cw c) (w:Well k.s.fEnvs c) (hu:20 ≤ c.e0) (h0:0 ≤ f) (h1:f < k.s.fFrames):(PK.touch k f c).1.2 = true∧(PK.touch k f c).1.1.fErr = 0:=by
  have hk:=vR w.kind
  have h2:=w.w7 hu
  have harg:Word.arg c 2 16 = (c.e2,true):=by
    have h3:(Word.arg c 2 16).2 = true:=(arg_of (by decide) (by decide) (by decide) (by decide)).2 h2
    unfold Word.arg at h3 ⊢
    split
    · rename_i hh; rw [if_pos hh] at h3; cases h3
    · show (IntKind.i64.wrap c.e2,true) = _
      rw [kwr cw.c2 h2]
  have hml:=ok.ml
  have hm:Mem.has k.m f c.e2:=kmem_has h0 (by omega) cw.c2 h2
  have hu':bT c.e0 = true:=by unfold bT; have:=w.kind; simp; omega
  have hld:(Mem.load k.m f c.e2).2 = true:=by unfold Mem.load; rw [if_pos hm]
  have hst:∀ v,(Mem.store k.m f c.e2 v).1 = true:=fun v=>by unfold Mem.store; rw [if_pos hm]
  unfold PK.touch
  rw [hk,harg]
  simp only
  rw [if_neg (by rw [hu']; simp)]
  repeat' split
  · exact ⟨hld,rfl⟩
  · exact ⟨hst _,rfl⟩
  · refine ⟨?_,rfl⟩
    unfold Mem.cas; split <;> exact hld
  · refine ⟨?_,rfl⟩
    unfold Mem.add; exact hld
theorem walk_cov {k:KK} (I:fy k) {c:Nat} (hc:c < k.calls.length) {x:KC} (h:(KK.accWalk k c x).1.2 = true) (hkind:20 ≤ IntKind.i64.wrap x.fc.e0∧IntKind.i64.wrap x.fc.e0 ≤ 23):Cov (PK.q k.p x.fenv (IntKind.i64.wrap x.fc.e1)) (KK.accWalk k c x).1.1∧(KK.accWalk k c x).1.1.fEnv = x.fenv∧(KK.accWalk k c x).1.1.fPage = IntKind.i64.wrap x.fc.e1∧cA (KK.accWalk k c x).1.1.fRights (IntKind.i64.wrap x.fc.e0) = true:=by
  unfold KK.accWalk at h ⊢
  rw [kbuf_nat] at h ⊢
  unfold User.walk at h ⊢
  split
  · rename_i hf
    have f:=Tlb.find_in (I.tok c hc) hf.1
    have L:=I.line c hc _ f.1 (by rw [f.2.1]; exact f.2.2.2)
    have hcov:=L.cov
    rw [f.2.1,f.2.2.1] at hcov
    exact ⟨hcov,f.2.1,f.2.2.1,hf.2⟩
  · rename_i hnf
    rw [if_neg hnf] at h
    split
    · rename_i hl; rw [if_pos hl] at h; cases h
    · rename_i hl
      have hl':cA (Table.get (KK.tabFor k x.fenv (IntKind.i64.wrap x.fc.e1)) (IntKind.i64.wrap x.fc.e1)).1.fRights (IntKind.i64.wrap x.fc.e0) = true:=by simpa using hl
      have hr:=(dk ((lets_need hkind _) ▸ hl')).2
      obtain ⟨s1,s2⟩:=tabFor_get k x.fenv (IntKind.i64.wrap x.fc.e1) (by omega)
      refine ⟨?_,rfl,rfl,hl'⟩
      have hcov:Cov (KK.seen k x.fenv (IntKind.i64.wrap x.fc.e1)).1 (⟨x.fenv,IntKind.i64.wrap x.fc.e1,(Table.get (KK.tabFor k x.fenv (IntKind.i64.wrap x.fc.e1)) (IntKind.i64.wrap x.fc.e1)).1.fFrame,(Table.get (KK.tabFor k x.fenv (IntKind.i64.wrap x.fc.e1)) (IntKind.i64.wrap x.fc.e1)).1.fRights⟩:jO):=by
        refine ⟨?_,?_⟩
        · show (KK.seen k x.fenv (IntKind.i64.wrap x.fc.e1)).1.fFrame = (Table.get (KK.tabFor k x.fenv (IntKind.i64.wrap x.fc.e1)) (IntKind.i64.wrap x.fc.e1)).1.fFrame
          rw [s2]
        · show aQ (Table.get (KK.tabFor k x.fenv (IntKind.i64.wrap x.fc.e1)) (IntKind.i64.wrap x.fc.e1)).1.fRights (KK.seen k x.fenv (IntKind.i64.wrap x.fc.e1)).1.fRights = true
          rw [← s2]; exact within_refl hr
      exact ((seen_cov I.en I.F I.tell_all _ _ _).1 ⟨s1,hcov⟩).1
theorem walk_fault {k:KK} (I:fy k) {c:Nat} {x:KC} (h:(KK.accWalk k c x).1.2 = false) (hkind:20 ≤ IntKind.i64.wrap x.fc.e0∧IntKind.i64.wrap x.fc.e0 ≤ 23):cA (PK.q k.p x.fenv (IntKind.i64.wrap x.fc.e1)).fRights (IntKind.i64.wrap x.fc.e0) = false∨∃ d y,Tells k d y∧cA (PK.q (PK.do_ k.p y.fenv y.fc).2 x.fenv (IntKind.i64.wrap x.fc.e1)).fRights (IntKind.i64.wrap x.fc.e0) = false:=by
  have hl:cA (Table.get (KK.tabFor k x.fenv (IntKind.i64.wrap x.fc.e1)) (IntKind.i64.wrap x.fc.e1)).1.fRights (IntKind.i64.wrap x.fc.e0) = false:=by
    unfold KK.accWalk User.walk at h
    split at h
    · cases h
    · split at h
      · rename_i hh; exact hh
      · cases h
  rw [lets_need hkind] at hl ⊢
  cases hq:aQ (wW (IntKind.i64.wrap x.fc.e0)) (PK.q k.p x.fenv (IntKind.i64.wrap x.fc.e1)).fRights with
  | false=>exact .inl rfl
  | true =>
    right
    have hne:(PK.q k.p x.fenv (IntKind.i64.wrap x.fc.e1)).fRights ≠ 0:=by have:=(dk hq).2; omega
    by_cases hall:∀ y,some y ∈ k.calls→y.ftold = true→Stay k.p y.fenv y.fc x.fenv (IntKind.i64.wrap x.fc.e1) (PK.q k.p x.fenv (IntKind.i64.wrap x.fc.e1)).fSlot (wW (IntKind.i64.wrap x.fc.e0))
    · exfalso
      obtain ⟨s1,s2⟩:=(seen_cov I.en I.F I.tell_all x.fenv (IntKind.i64.wrap x.fc.e1) (⟨x.fenv,IntKind.i64.wrap x.fc.e1,(PK.q k.p x.fenv (IntKind.i64.wrap x.fc.e1)).fFrame,wW (IntKind.i64.wrap x.fc.e0)⟩:jO)).2 ⟨⟨rfl,hq⟩,hall⟩
      rw [tabFor_seen I.F s1 s2 hne,s2.w] at hl
      cases hl
    · simp only [Classical.not_forall] at hall
      obtain ⟨y,hy,hty,hns⟩:=hall
      obtain ⟨d,hd⟩:=calls_mem hy
      refine ⟨d,y,⟨hd,hty⟩,?_⟩
      have T:=I.teller ⟨hd,hty⟩
      have hcs:=I.ok.cs y hy
      rw [lets_need hkind,PK.do_q I.F T.w (PK.off_iff.2 ⟨hcs.2.2.1,hcs.2.2.2⟩) T.k T.t]
      cases ha:aQ (wW (IntKind.i64.wrap x.fc.e0)) (PK.aft k.p y.fenv y.fc x.fenv (IntKind.i64.wrap x.fc.e1)).fRights with
      | false=>rfl
      | true=>exact absurd (stay_of_aft hne T.t ha) hns
theorem access_good {k:KK} (I:fy k) {c:Nat} (hc:c < k.calls.length) {x:KC} (hx:k.calls[c]? = some (some x)) (hu:bT (aA x.fc).1 = true) {es:List bA} {e:bA} (h1:e.fCall = x.fc) (h2:e.fEnv = x.fenv) (h3:e.fAnswer = (KK.access k c x).1.1) (h4:e.fLine = (KK.access k c x).1.2)
    (hov:∀ d y,Tells k d y→y.fat ∈ Hist.over es e.fEffect∧(Judge.ev es y.fat).fCall = y.fc∧(Judge.ev es y.fat).fEnv = y.fenv):Judge.access k.p es k.p.s e = true∧(if Judge.well k.p.s e = true then (PK.touch k.p e.fLine.fFrame e.fCall).2 else k.p) = (KK.access k c x).2.p:=by
  have cw:=I.cw c x hx
  unfold Judge.access Judge.well
  rw [h1,h2,h3,h4]
  unfold KK.access
  by_cases hk:Word.check x.fc k.p.s.fEnvs ≠ 0
  · rw [if_pos hk,if_pos hk]
    simp only
    refine ⟨by rw [eqb_answer,eqb_line]; rfl,?_⟩
    have:(Word.check x.fc k.p.s.fEnvs == 0) = false:=by simpa using hk
    rw [this]; simp
  · rw [if_neg hk,if_neg hk]
    have hk0:Word.check x.fc k.p.s.fEnvs = 0:=by simpa using hk
    have w:=tL I.en.1 I.en.2 hk0
    have hkv:=vR w.kind
    have hu0:20 ≤ x.fc.e0∧x.fc.e0 ≤ 23:=by rw [hkv] at hu; unfold bT at hu; simpa using hu
    have hw0:=PK.w0 w
    have hkind:20 ≤ IntKind.i64.wrap x.fc.e0∧IntKind.i64.wrap x.fc.e0 ≤ 23:=by rw [hw0]; exact hu0
    by_cases hf:(KK.accWalk k c x).1.2 = false
    · rw [if_pos hf]
      simp only [if_true]
      refine ⟨?_,by simp⟩
      rw [eqb_line]
      have hfa:Judge.faults e (Judge.others k.p es e.fEffect x.fenv (IntKind.i64.wrap x.fc.e1)) = true:=by
        unfold Judge.faults Judge.others
        rw [h1,List.any_eq_true]
        rcases walk_fault I hf hkind with h | ⟨d,y,hy,h⟩
        · exact ⟨_,List.mem_cons_self,by show (!(cA (PK.q k.p x.fenv (IntKind.i64.wrap x.fc.e1)).fRights _)) = true; rw [h]; rfl⟩
        · obtain ⟨o1,o2,o3⟩:=hov d y hy
          have T:=I.teller hy
          have htk:Judge.takes (Judge.ev es y.fat) = true:=by
            have wy:=tL I.en.1 I.en.2 T.k
            have:=T.t
            unfold Judge.takes
            rw [o2,vR wy.kind]
            unfold Tk at this
            rcases this with h | h | h | h <;> simp [h]
          have hm:=mem_othersFrom (k:=k.p) (env:=x.fenv) (pg:=IntKind.i64.wrap x.fc.e1) o1 htk
          rw [o2,o3] at hm
          exact ⟨_,List.mem_cons_of_mem _ hm,by rw [h]; rfl⟩
      rw [hfa]; rfl
    · rw [if_neg hf]
      have hf':(KK.accWalk k c x).1.2 = true:=by simpa using hf
      obtain ⟨cv,e1,e2,e3⟩:=walk_cov I hc hf' hkind
      have hne:(PK.q k.p x.fenv (IntKind.i64.wrap x.fc.e1)).fRights ≠ 0:=by have:=cv.r; omega
      have hb:=I.F.by_ _ _ hne
      have hcap:(Caps.get k.p.caps x.fenv (PK.q k.p x.fenv (IntKind.i64.wrap x.fc.e1)).fSlot).fRights ≠ 0:=by have:=(dk hb.2.2).2; omega
      have hfr:=PK.fine_frame I.F.ok.fine hb.1 hcap
      rw [hb.2.1,cv.f] at hfr
      obtain ⟨t1,t2⟩:=touch_well I.F.ok cw w hu0.1 hfr.1 hfr.2
      have hlr:=(dk cv.w).1
      simp only
      rw [t2,if_neg (by decide)]
      have hgo:Judge.goes e (Judge.others k.p es e.fEffect x.fenv (IntKind.i64.wrap x.fc.e1)) = true:=by
        unfold Judge.goes Judge.others
        rw [h4,List.any_eq_true]
        refine ⟨_,List.mem_cons_self,?_⟩
        unfold KK.access
        rw [if_neg hk,if_neg hf]
        show ((PK.q k.p x.fenv (IntKind.i64.wrap x.fc.e1)).fFrame == _ && _) = true
        rw [cv.f]
        show ((_ == _) && aQ _ (PK.q k.p x.fenv (IntKind.i64.wrap x.fc.e1)).fRights) = true
        rw [cv.w]; simp
      have hown:Judge.own e = true:=by
        unfold Judge.own
        rw [h1,h2,h4]
        unfold KK.access
        rw [if_neg hk,if_neg hf]
        simp only
        rw [e1,e2,e3]; simp
      rw [hgo,hown,t1,eqb_answer,hk0]
      refine ⟨rfl,?_⟩
      rw [if_pos]
      simp; omega
end Go.Proofs.YtemoifebbhoinaaGreatDoor
namespace Go.Proofs.YtemoifebbhoinaaGreatDoor
open Go Mb
namespace Judge
def jstep (es:List bA) (s:eY) (k:PK) (i:Int):PK:=if fz (ev es i) = true then (if well s (ev es i) = true then (PK.touch k (ev es i).fLine.fFrame (ev es i).fCall).2 else k) else (PK.do_ k (ev es i).fEnv (ev es i).fCall).2
def good (es:List bA) (s:eY) (k:PK) (i:Int):Prop:=(fz (ev es i) = true→access k es s (ev es i) = true)∧(fz (ev es i) = false→(PK.do_ k (ev es i).fEnv (ev es i).fCall).1.2 = true∧(PK.do_ k (ev es i).fEnv (ev es i).fCall).1.1 = (ev es i).fAnswer)
def Good (es:List bA) (s:eY):PK→List Int→Prop
  | _,[]=>True
  | k,i::l=>good es s k i∧Good es s (jstep es s k i) l
def jrun (es:List bA) (s:eY):PK→List Int→PK
  | k,[]=>k
  | k,i::l=>jrun es s (jstep es s k i) l
theorem run_good {es:List bA} {s:eY} (lin acc:Bool):∀ {l:List Int} {k:PK},Good es s k l→runFrom es s lin acc k l = (-1,true)
  | [],_,_=>rfl
  | i::l,k,⟨g,h⟩=>by
    have ih:=run_good lin acc h
    rw [runFrom]
    unfold jstep at ih
    by_cases hu:fz (ev es i) = true
    · rw [if_pos hu] at ih ⊢
      rw [if_neg (by rw [g.1 hu]; simp)]
      exact ih
    · rw [if_neg hu] at ih ⊢
      have g2:=g.2 (by simpa using hu)
      rw [if_neg,ih]
      rintro ⟨_,h1 | h1⟩
      · rw [g2.1] at h1; cases h1
      · rw [g2.2,eqb_answer] at h1; cases h1
theorem Good_app {es:List bA} {s:eY} {i:Int}:∀ {l:List Int} {k:PK},Good es s k l→good es s (jrun es s k l) i→Good es s k (l++[i])
  | [],_,_,g=>⟨g,trivial⟩
  | _::_,_,⟨a,b⟩,g=>⟨a,Good_app b g⟩
theorem jrun_app {es:List bA} {s:eY} {i:Int}:∀ {l:List Int} {k:PK},jrun es s k (l++[i]) = jstep es s (jrun es s k l) i
  | [],_=>rfl
  | _::l,_=>jrun_app (l:=l)
structure Alike (es es':List bA) (i:Int):Prop where
  e:ev es' i = ev es i
  o:Hist.over es' (ev es i).fEffect = Hist.over es (ev es i).fEffect
  c:∀ j ∈ Hist.over es (ev es i).fEffect,(ev es' j).fCall = (ev es j).fCall∧(ev es' j).fEnv = (ev es j).fEnv
theorem vH {k:PK} {es es':List bA} {env pg:Int}:∀ {L:List Int},(∀ j ∈ L,(ev es' j).fCall = (ev es j).fCall∧(ev es' j).fEnv = (ev es j).fEnv)→othersFrom k es' env pg L = othersFrom k es env pg L
  | [],_=>rfl
  | i::L,h=>by
    have h1:=h i (by simp)
    have ih:=vH (k:=k) (env:=env) (pg:=pg) (L:=L) (fun j hj=>h j (by simp [hj]))
    have ht:takes (ev es' i) = takes (ev es i):=by unfold takes; rw [h1.1]
    rw [othersFrom,othersFrom,ht,h1.1,h1.2,ih]
theorem Alike.access {es es':List bA} {i:Int} (A:Alike es es' i) (k:PK) (s:eY):access k es' s (ev es' i) = access k es s (ev es i):=by
  have ho:others k es' (ev es i).fEffect (ev es i).fEnv (IntKind.i64.wrap (ev es i).fCall.e1) = others k es (ev es i).fEffect (ev es i).fEnv (IntKind.i64.wrap (ev es i).fCall.e1):=by
    unfold others
    rw [A.o,vH A.c]
  unfold Judge.access
  rw [A.e,ho]
theorem Alike.good {es es':List bA} {i:Int} (A:Alike es es' i) {k:PK} {s:eY} (g:good es s k i):good es' s k i:=by
  have h:=A.access k s
  unfold Judge.good at g ⊢
  rw [h,A.e]; exact g
theorem Alike.jstep {es es':List bA} {i:Int} (A:Alike es es' i) (k:PK) (s:eY):jstep es' s k i = jstep es s k i:=by
  unfold Judge.jstep; rw [A.e]
theorem Good_alike {es es':List bA} {s:eY}:∀ {l:List Int} {k:PK},(∀ i ∈ l,Alike es es' i)→Good es s k l→Good es' s k l∧jrun es' s k l = jrun es s k l
  | [],_,_,_=>⟨trivial,rfl⟩
  | i::l,k,h,⟨a,b⟩=>by
    have A:=h i (by simp)
    obtain ⟨h1,h2⟩:=Good_alike (l:=l) (fun j hj=>h j (by simp [hj])) b
    have ej:=A.jstep k s
    refine ⟨⟨A.good a,by rw [ej]; exact h1⟩,?_⟩
    rw [jrun,jrun,ej]; exact h2
end Judge
theorem ev_get {es:List bA} {n:Nat} {e:bA} (h:es[n]? = some e):Judge.ev es n = e:=by simp [Judge.ev,h]
theorem placesFrom_set (P:bA→Bool):∀ (es:List bA) (n:Nat) (d e:bA) (i:Int),es[n]? = some d→P e = P d→Hist.placesFrom P (es.set n e) i = Hist.placesFrom P es i
  | [],_,_,_,_,h,_=>by simp at h
  | a::es,0,d,e,i,h,hp=>by
    simp at h; subst h
    rw [List.set_cons_zero,Hist.placesFrom,Hist.placesFrom,hp]
  | a::es,n + 1,d,e,i,h,hp=>by
    rw [List.set_cons_succ,Hist.placesFrom,Hist.placesFrom,placesFrom_set P es n d e (i + 1) (by simpa using h) hp]
theorem uQ (P:bA→Bool):∀ (es:List bA) (i:Int),(Hist.placesFrom P es i).Nodup
  | [],_=>.nil
  | e::es,i=>by
    rw [Hist.placesFrom]
    split
    · refine List.nodup_cons.2 ⟨fun h=>?_,uQ P es (i + 1)⟩
      obtain ⟨n,_,_,h2,_⟩:=Hist.mem_placesFrom.1 h
      omega
    · exact uQ P es (i + 1)
structure Log (k:KK) (log:List Int):Prop where
  mem:∀ i,i ∈ log↔∃ (n:Nat) (e:bA),k.events[n]? = some e∧i = n∧e.fEffect > 0
  up:log.Pairwise (fun a b=>Hist.eff k.events a < Hist.eff k.events b)
  good:Judge.Good k.events k.p.s (PK.new k.p.s) log
  run:Judge.jrun k.events k.p.s (PK.new k.p.s) log = k.p
theorem Log.nodup {k:KK} {log:List Int} (L:Log k log):log.Nodup:=L.up.imp (fun h e=>by rw [e] at h; exact absurd h (Int.lt_irrefl _))
theorem jo.apart {k:KK} (E:jo k):Hist.Apart k.events:=by
  intro a b ha hb he
  obtain ⟨n,d,h1,rfl,h2⟩:=Hist.mem_places.1 ha
  obtain ⟨m,e,h3,rfl,h4⟩:=Hist.mem_places.1 hb
  rw [Hist.eff_nat h1,Hist.eff_nat h3] at he
  have:=E.ef n m d e h1 h3 (by simpa using h2) he
  rw [this]
theorem Log.order {k:KK} {log:List Int} (E:jo k) (L:Log k log):log = Hist.order k.events:=by
  refine Hist.order_of E.apart ?_ (L.up.imp (fun h=>Int.le_of_lt h))
  refine (List.perm_ext_iff_of_nodup L.nodup (uQ _ _ _)).2 fun i=>?_
  rw [L.mem]
  show _↔i ∈ Hist.places _ _
  rw [Hist.mem_places]
  simp
theorem log_new (s:eY):Log (KK.new s) []:=by
  refine ⟨fun i=>?_,.nil,trivial,rfl⟩
  simp [KK.new]
theorem Log.same {k k':KK} {log:List Int} (L:Log k log) (he:k'.events = k.events) (hp:k'.p = k.p):Log k' log:=by
  obtain ⟨a,b,c,d⟩:=L
  exact ⟨fun i=>by rw [he]; exact a i,by rw [he]; exact b,by rw [he,hp]; exact c,by rw [he,hp]; exact d⟩
theorem jo.mayFrom {k:KK} (E:jo k):∀ (n:Nat) (es:List bA),k.events.drop n = es→∀ (last:Int) (seen:List Int) (ends:List (Int × Int)),
    (∀ i e,i < n→k.events[i]? = some e→e.fBegin ≤ last∨n = 0)→(n = 0→last = 0)→(0 < n→∃ e,k.events[n - 1]? = some e∧last = e.fBegin) →
    (∀ x ∈ seen,∃ (i:Nat) (e:bA),i < n∧k.events[i]? = some e∧x = e.fEffect) →
    (∀ c v,Hist.endOf ends c = some v→∃ (i:Nat) (e:bA),i < n∧k.events[i]? = some e∧e.fCore = c∧v = e.fEnd)→Hist.mayFrom k.p.s es last seen ends = true
  | _,[],_,_,_,_,_,_,_,_,_=>rfl
  | n,e::es,hd,last,seen,ends,h1,h2,h3,h4,h5=>by
    have hn:k.events[n]? = some e:=by
      have:=congrArg (fun l=>l[0]?) hd
      simpa using this
    have o:=E.one n e hn
    have hlast:last < e.fBegin:=by
      rcases Nat.eq_zero_or_pos n with h0 | h0
      · rw [h2 h0]; have:=o.b0; omega
      · obtain ⟨d,hd1,rfl⟩:=h3 h0
        exact E.up (n - 1) n d e (by omega) hd1 hn
    have hone:eG e k.p.s last = true:=by
      unfold eG
      have c1:(((((decide (e.fCore < 0)) || (decide (e.fCore ≥ k.p.s.fCores))) || (decide (e.fEnv < 0))) || (decide (e.fEnv ≥ k.p.s.fEnvs))) || (decide (e.fBegin ≤ last))) = false:=by
        have:=o.c0; have:=o.c1; have:=o.v0; have:=o.v1
        simp; omega
      rw [c1]
      simp only [cond_false]
      rcases o.st with s | s
      · simp [s.1,s.2]
      · have hb:=o.b0
        have:(e.fEffect == 0) = false:=by simp; omega
        rw [this]
        simp only [cond_false]
        simp; omega
    rw [Hist.mayFrom]
    rw [if_neg]
    · rw [if_neg]
      · refine jo.mayFrom E (n + 1) es ?_ e.fBegin _ _ (fun i d hi hd1=>?_) (fun h=>by omega) (fun _=>⟨e,by simpa using hn,rfl⟩) (fun x hx=>?_) (fun c v hv=>?_)
        · rw [← List.drop_drop,hd]; rfl
        · left
          rcases Nat.lt_or_ge i n with h | h
          · exact Int.le_of_lt (E.up i n d e h hd1 hn)
          · have:i = n:=by omega
            subst this; rw [hn] at hd1; cases hd1; exact Int.le_refl _
        · rcases List.mem_cons.1 hx with rfl | hx
          · exact ⟨n,e,by omega,hn,rfl⟩
          · obtain ⟨i,d,a1,a2,a3⟩:=h4 x hx
            exact ⟨i,d,by omega,a2,a3⟩
        · unfold Hist.endOf at hv
          rw [List.find?_cons] at hv
          by_cases hc:(e.fCore == c) = true
          · rw [hc] at hv
            simp at hv
            exact ⟨n,e,by omega,hn,by simpa using hc,hv.symm⟩
          · have hc':(e.fCore == c) = false:=by simpa using hc
            rw [hc'] at hv
            obtain ⟨i,d,a1,a2,a3⟩:=h5 c v hv
            exact ⟨i,d,by omega,a2,a3⟩
      · unfold Hist.stops
        split
        · rename_i v hv
          obtain ⟨i,d,a1,a2,a3,rfl⟩:=h5 _ _ hv
          have:=E.co i n d e a1 a2 hn a3
          simp; omega
        · simp
    · rintro (h | ⟨h,hm⟩)
      · rw [hone] at h; cases h
      · obtain ⟨i,d,a1,a2,a3⟩:=h4 _ hm
        have:=E.ef n i e d hn a2 h a3
        omega
theorem jo.may {k:KK} (E:jo k):Hist.may k.events k.p.s = true :=
  E.mayFrom 0 k.events rfl 0 [] [] (fun i e h=>by omega) (fun _=>rfl) (fun h=>by omega) (fun x hx=>by cases hx) (fun c v hv=>by cases hv)
theorem right_of {k:KK} {log:List Int} (E:jo k) (L:Log k log):Judge.right k.events k.p.s = true∧Judge.linear k.events k.p.s = (-1,true)∧Judge.accesses k.events k.p.s = (-1,true):=by
  have h:∀ a b,Judge.run k.events k.p.s a b = (-1,true):=fun a b=>by
    unfold Judge.run
    rw [if_pos E.may,← L.order E]
    exact Judge.run_good a b L.good
  refine ⟨?_,h true false,h false true⟩
  unfold Judge.right Judge.linear Judge.accesses
  rw [h,h]; rfl
end Go.Proofs.YtemoifebbhoinaaGreatDoor
