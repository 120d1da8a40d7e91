/- Part of the proof of: The law PicksAll returns true for every input, and leaves its arguments as they were. -/
import Derived.Test.YtniiiakkdoiaiaaGreatDoorPicksAll09
set_option linter.all false
namespace Go.Proofs.YtniiiakkdoiaiaaGreatDoor
open Go Mb
structure PZ where
  b:Nat
  pm:Ptr
  ts:Sl
  tp:List Ptr
  pp:Ptr
  pc:Ptr
abbrev pQ (s:kQ) (z:PZ):List Value:=[.int .i64 s.fCores,.int .i64 s.fEnvs,.int .i64 s.fFrames,pv z.pm,sv z.ts,pv z.pp,pv z.pc]
abbrev vQ (T:Nat) (s:Sl) (xs:List Ptr):As:=vec T 1 cP s xs
abbrev plainL (z:PZ) (k:PK):List As:=[blk z.b cG (pQ k.s z),ij z.pm k.m,vQ eq z.ts z.tp,all db z.tp k.tabs,fP z.pp k.pool,cR z.pc k.caps]
def bE (x:Ptr) (k:PK):As:=fun h=>∃ z:PZ,(x = some (z.b,0)∧z.tp.length = k.tabs.length∧PK.Ok k)∧aP (plainL z k) h
theorem fJ {x:Ptr} {k:PK} {l:List As} {h:Hp} (s0:aP (bE x k::l) h):∃ z:PZ,x = some (z.b,0)∧z.tp.length = k.tabs.length∧PK.Ok k∧z.ts.len = k.tabs.length∧aP (blk z.b cG (pQ k.s z)::ij z.pm k.m::vQ eq z.ts z.tp::all db z.tp k.tabs::fP z.pp k.pool::cR z.pc k.caps::l) h:=by
  obtain ⟨z,⟨hx,h1,ok⟩,st⟩:=op_ s0
  exact ⟨z,hx,h1,ok,(cq (j:=2) st rfl).1.trans h1,st⟩
theorem dc {z:PZ} {k:PK} {l:List As} {h:Hp} (h1:z.tp.length = k.tabs.length) (ok:PK.Ok k) (st:aP (blk z.b cG (pQ k.s z)::ij z.pm k.m::vQ eq z.ts z.tp::all db z.tp k.tabs::fP z.pp k.pool::cR z.pc k.caps::l) h):aP (bE (some (z.b,0)) k::l) h :=
  cl_ (m:=fun z:PZ=>plainL z k) z ⟨rfl,h1,ok⟩ st
theorem gP (x:Ptr):(cP x).length = 1:=rfl
theorem cP_one (x:Ptr):dM (cP x) = true:=rfl
theorem sp_plain_off (x:Ptr) (k:PK) (e:Int):Sp Tryz.prog jS [pv x,.int .i64 e] aK [bE x k] (fun r=>pa_ (r = PK.off k e) [bE x k]):=by
  intro h s0
  obtain ⟨z,rfl,h1,ok,hl,st⟩:=fJ s0
  refine sim_plain_Kernel_off _ _ ?_
  unfold ro
  refine bk (fun c=>?_) (fun c=>?_)
  · have c':¬ e < 0:=by simpa using c
    refine cO (bB k.s.fEnvs st (i:=0) rfl rfl rfl ?_)
    exact bi (by simp [PK.off,c']) s0
  · have c':e < 0:=by simpa using c
    exact bi (by simp [PK.off,c']) s0
theorem off_nat {k:PK} (ok:PK.Ok k) {e:Int} (h:PK.off k e = false):∃ n:Nat,e = n∧n < k.tabs.length:=by
  unfold PK.off at h
  simp at h
  have:=ok.tl
  exact ⟨e.toNat,by omega,by omega⟩
theorem rH (x:Ptr) (k:PK) (e p:Int):Sp Tryz.prog fM [pv x,.int .i64 e,.int .i64 p] cH [bE x k] (fun r=>pa_ (r = PK.pte k e p) [bE x k]):=by
  intro h s0
  refine sim_plain_Kernel_Pte _ _ _ ?_
  unfold rp
  refine bZ (sp_plain_off x k e) (i:=0) rfl s0 fun r h1 hr s1=>?_
  subst hr
  refine bk (fun c=>?_) (fun c=>?_)
  · exact bi (by unfold PK.pte; rw [if_pos c]) s1
  · obtain ⟨z,rfl,h1,ok,hl,st⟩:=fJ s1
    obtain ⟨n,rfl,hn⟩:=off_nat ok c
    have hn':n < z.tp.length:=by omega
    refine cO (bB z.ts st (i:=0) rfl rfl rfl ?_)
    refine dE st (j:=2) rfl (by omega) (by omega) fun q hq=>?_
    refine eC (j:=2) (i:=n) (k:=0) z.tp[n] gP st rfl hq (by simp) (aO hn') (by simp) ?_
    have s2:=jl (aO hn') (aO hn) (bp [3] st rfl)
    refine bZ (ny z.tp[n] k.tabs[n] p) (i:=0) rfl s2 fun r h3 hr s3=>?_
    subst hr
    have s4:=vN (aO hn') (aO hn) h1 s3
    refine bi ?_ (dc h1 ok (bp [1,1,1] s4 rfl))
    unfold PK.pte
    rw [if_neg (by rw [c]; exact Bool.false_ne_true),(tab_of ok hn).1]
theorem wc (x:Ptr) (k:PK) (e s:Int):Sp Tryz.prog ia [pv x,.int .i64 e,.int .i64 s] cU [bE x k] (fun r=>pa_ (r = Caps.at_ k.caps e s) [bE x k]):=by
  intro h s0
  obtain ⟨z,rfl,h1,ok,hl,st⟩:=fJ s0
  refine sim_plain_Kernel_Cap _ _ _ ?_
  unfold rr
  refine dJ rfl (cO (bB z.pc st (i:=0) rfl rfl rfl ?_))
  refine bZ (jL z.pc k.caps e s) (i:=5) rfl st fun r h2 hr s2=>?_
  subst hr
  exact bi rfl (dc h1 ok s2)
theorem kind_user {c:jE} (h:dw (aN c).1 = true):(aN c).1 = 20∨(aN c).1 = 21∨(aN c).1 = 22∨(aN c).1 = 23:=by
  unfold dw at h; simp at h; omega
theorem nY (x:Ptr) (k:PK) (f:Int) (c:jE):Sp Tryz.prog eV [pv x,.int .i64 f,.agg c.C.toArray] bz [bE x k] (fun r=>pa_ (r = (PK.touch k f c).1) [bE x (PK.touch k f c).2]):=by
  intro h s0
  obtain ⟨z,rfl,h1,ok,hl,st⟩:=fJ s0
  have ok2:=ok_touch ok f c
  refine wl _ _ _ ?_
  unfold oY
  refine ti (qp c 2 16) st fun r h2 hr s2=>?_
  subst hr
  refine bk (fun d=>?_) (fun d=>?_)
  · have d':(Word.arg c 2 16).2 = false∨dw (aN c).1 = false:=by simpa using d
    have e1:PK.touch k f c = ((⟨0,0⟩,false),k):=if_pos d'
    rw [e1]
    exact bi rfl (dc h1 ok s2)
  · have d':¬ ((Word.arg c 2 16).2 = false∨dw (aN c).1 = false):=by simp at d; simp [d]
    have hu:=kind_user (by simp at d'; exact d'.2)
    unfold dT
    refine bk (fun d1=>?_) (fun d1=>?_)
    · have d1':(aN c).1 = 20:=by simpa using d1
      have e1:PK.touch k f c = ((⟨0,(Mem.load k.m f (Word.arg c 2 16).1).1⟩,(Mem.load k.m f (Word.arg c 2 16).1).2),k):=by unfold PK.touch; rw [if_neg d',if_pos d1']
      rw [e1]
      refine cO (bB z.pm s2 (i:=0) rfl rfl rfl ?_)
      refine bZ (qq z.pm k.m f _) (i:=1) rfl s2 fun r h3 hr s3=>?_
      subst hr
      exact bi rfl (dc h1 ok s3)
    · have d1':¬ (aN c).1 = 20:=by simpa using d1
      refine bk (fun d2=>?_) (fun d2=>?_)
      · have d2':(aN c).1 = 21:=by simpa using d2
        have e1:PK.touch k f c = ((⟨0,0⟩,(Mem.store k.m f (Word.arg c 2 16).1 c.e3).1),{ k with m:=(Mem.store k.m f (Word.arg c 2 16).1 c.e3).2 }):=by unfold PK.touch; rw [if_neg d',if_neg d1',if_pos d2']
        rw [e1] at ok2 ⊢
        refine cO (bB z.pm s2 (i:=0) rfl rfl rfl ?_)
        refine bZ (lG z.pm k.m f _ _) (i:=1) rfl s2 fun r h3 hr s3=>?_
        subst hr
        exact bi rfl (dc h1 ok2 s3)
      · have d2':¬ (aN c).1 = 21:=by simpa using d2
        refine bk (fun d3=>?_) (fun d3=>?_)
        · have d3':(aN c).1 = 22:=by simpa using d3
          have e1:PK.touch k f c = ((⟨0,(Mem.cas k.m f (Word.arg c 2 16).1 c.e3 c.e4).1.1⟩,(Mem.cas k.m f (Word.arg c 2 16).1 c.e3 c.e4).1.2),{ k with m:=(Mem.cas k.m f (Word.arg c 2 16).1 c.e3 c.e4).2 }):=by unfold PK.touch; rw [if_neg d',if_neg d1',if_neg d2',if_pos d3']
          rw [e1] at ok2 ⊢
          refine cO (bB z.pm s2 (i:=0) rfl rfl rfl ?_)
          refine bZ (sp_mem_Cas z.pm k.m f _ _ _) (i:=1) rfl s2 fun r h3 hr s3=>?_
          subst hr
          exact bi rfl (dc h1 ok2 s3)
        · have d3':¬ (aN c).1 = 22:=by simpa using d3
          have e1:PK.touch k f c = ((⟨0,(Mem.add k.m f (Word.arg c 2 16).1 c.e3).1.1⟩,(Mem.add k.m f (Word.arg c 2 16).1 c.e3).1.2),{ k with m:=(Mem.add k.m f (Word.arg c 2 16).1 c.e3).2 }):=by unfold PK.touch; rw [if_neg d',if_neg d1',if_neg d2',if_neg d3']
          rw [e1] at ok2 ⊢
          refine dW (by simp; omega) ?_
          refine cO (bB z.pm s2 (i:=0) rfl rfl rfl ?_)
          refine bZ (sp_mem_Add z.pm k.m f _ _) (i:=1) rfl s2 fun r h3 hr s3=>?_
          subst hr
          exact bi rfl (dc h1 ok2 s3)
theorem sp_plain_alloc (x:Ptr) (k:PK) (e s:Int):Sp Tryz.prog lh [pv x,.int .i64 e,.int .i64 s] bv [bE x k] (fun r=>pa_ (r = (PK.alloc k e s).1) [bE x (PK.alloc k e s).2]):=by
  intro h s0
  obtain ⟨z,rfl,h1,ok,hl,st⟩:=fJ s0
  have ok2:=ok_alloc ok e s
  refine wk _ _ _ ?_
  unfold oX
  refine cO (bB z.pc st (i:=0) rfl rfl rfl ?_)
  refine bZ (jL z.pc k.caps e s) (i:=5) rfl st fun r h2 hr s2=>?_
  subst hr
  refine bk (fun d=>?_) (fun d=>?_)
  · have e1:PK.alloc k e s = (4,k):=if_pos d
    rw [e1]; exact bi rfl (dc h1 ok s2)
  · have d':¬ (Caps.at_ k.caps e s).2 = true:=by rw [d]; exact Bool.false_ne_true
    refine bB z.pp s2 (i:=0) rfl rfl rfl ?_
    refine bZ (wa z.pp k.pool) (i:=4) rfl s2 fun r h3 hr s3=>?_
    subst hr
    refine bk (fun d2=>?_) (fun d2=>?_)
    · have d2':(Pool.take k.pool).2.1 = false:=by simpa using d2
      have e1:PK.alloc k e s = (6,k):=by unfold PK.alloc; rw [if_neg d',if_pos d2']
      have e2:(Pool.take k.pool).2.2 = k.pool:=by
        unfold Pool.take at d2' ⊢; split
        · rfl
        · rename_i hh; rw [if_neg hh] at d2'; cases d2'
      rw [e1]
      rw [e2] at s3
      exact bi rfl (dc h1 ok s3)
    · have d2':¬ (Pool.take k.pool).2.1 = false:=by simpa using d2
      have e1:PK.alloc k e s = ((Caps.root k.caps e s (Pool.take k.pool).1).1,{ k with pool:=(Pool.take k.pool).2.2,m:=(Mem.zero k.m (Pool.take k.pool).1).2,caps:=(Caps.root k.caps e s (Pool.take k.pool).1).2 }):=by unfold PK.alloc; rw [if_neg d',if_neg d2']
      rw [e1] at ok2 ⊢
      refine bB z.pm s3 (i:=0) rfl rfl rfl ?_
      refine bZ (sp_mem_Zero z.pm k.m _) (i:=1) rfl s3 fun r h4 hr s4=>?_
      refine bB z.pc s4 (i:=0) rfl rfl rfl ?_
      refine bZ (we z.pc k.caps e s _) (i:=5) rfl s4 fun r h5 hr s5=>?_
      subst hr
      exact bi rfl (dc h1 ok2 s5)
theorem derive_no {t:Caps.T} {e src to dst r:Int} (h:(Caps.derive t e src to dst r).1 ≠ 0):(Caps.derive t e src to dst r).2 = t:=by
  unfold Caps.derive at h ⊢
  repeat' split
  all_goals first | rfl | simp_all
theorem hold_no {p:List Int} {i:Int} (h:(Pool.hold p i).1 = false):(Pool.hold p i).2 = p:=by
  unfold Pool.hold at h ⊢
  split
  · rfl
  · rename_i hh; rw [if_neg hh] at h; cases h
theorem revoke_no {t:Caps.T} {e s:Int} (h:(Caps.revoke t e s).1.2 ≠ 0):(Caps.revoke t e s).2 = t∧(Caps.revoke t e s).1.1 = []:=by
  unfold Caps.revoke at h ⊢
  split
  · exact ⟨rfl,rfl⟩
  · rename_i hh; rw [if_neg hh] at h; exact absurd rfl h
theorem sp_plain_derive (x:Ptr) (k:PK) (e src to dst r:Int):Sp Tryz.prog io [pv x,.int .i64 e,.int .i64 src,.int .i64 to,.int .i64 dst,.int .i64 r] bv [bE x k] (fun v=>pa_ (v = (PK.derive k e src to dst r).1) [bE x (PK.derive k e src to dst r).2]):=by
  intro h s0
  obtain ⟨z,rfl,h1,ok,hl,st⟩:=fJ s0
  have ok2:=ok_derive ok e src to dst r
  refine uM _ _ _ _ _ _ ?_
  unfold oh
  refine cO (bB z.pc st (i:=0) rfl rfl rfl ?_)
  refine bZ (su z.pc k.caps e src to dst r) (i:=5) rfl st fun v h2 hr s2=>?_
  subst hr
  refine bk (fun d=>?_) (fun d=>?_)
  · have d':(Caps.derive k.caps e src to dst r).1 ≠ 0:=by simpa using d
    have e1:PK.derive k e src to dst r = ((Caps.derive k.caps e src to dst r).1,k):=if_pos d'
    rw [e1]
    rw [derive_no d'] at s2
    exact bi rfl (dc h1 ok s2)
  · have d':¬ (Caps.derive k.caps e src to dst r).1 ≠ 0:=by simpa using d
    refine bB z.pc s2 (i:=0) rfl rfl rfl ?_
    refine bZ (jL z.pc _ to dst) (i:=5) rfl s2 fun v h3 hr s3=>?_
    subst hr
    refine bB z.pp s3 (i:=0) rfl rfl rfl ?_
    refine bZ (sp_pool_Hold z.pp k.pool _) (i:=4) rfl s3 fun v h4 hr s4=>?_
    subst hr
    refine bk (fun d2=>?_) (fun d2=>?_)
    · have d2':(Pool.hold k.pool (Caps.at_ (Caps.derive k.caps e src to dst r).2 to dst).1.fFrame).1 = false:=by simpa using d2
      have e1:PK.derive k e src to dst r = (6,{ k with caps:=(Caps.drop (Caps.derive k.caps e src to dst r).2 to dst).2 }):=by unfold PK.derive; rw [if_neg d',if_pos d2']
      rw [e1] at ok2 ⊢
      rw [hold_no d2'] at s4
      refine bB z.pc s4 (i:=0) rfl rfl rfl ?_
      refine cl_p (sp_caps_Drop z.pc _ to dst) (i:=5) rfl s4 fun v h5 hr s5=>?_
      exact bi rfl (dc h1 ok2 (ct (l:=[vP v.1 _]) s5))
    · have d2':¬ (Pool.hold k.pool (Caps.at_ (Caps.derive k.caps e src to dst r).2 to dst).1.fFrame).1 = false:=by simpa using d2
      have e1:PK.derive k e src to dst r = (0,{ k with caps:=(Caps.derive k.caps e src to dst r).2,pool:=(Pool.hold k.pool (Caps.at_ (Caps.derive k.caps e src to dst r).2 to dst).1.fFrame).2 }):=by unfold PK.derive; rw [if_neg d',if_neg d2']
      rw [e1] at ok2 ⊢
      exact bi rfl (dc h1 ok2 s4)
end Go.Proofs.YtniiiakkdoiaiaaGreatDoor
namespace Go.Proofs.YtniiiakkdoiaiaaGreatDoor
open Go Mb
theorem gone_app (f:Int):∀ (l:List dl) (k:PK) (p:dl),PK.gone k f (l++[p]) = PK.gone (PK.gone k f l) f [p]
  | [],_,_=>rfl
  | _::l,_,p=>gone_app f l _ p
theorem gone_s (f:Int):∀ (l:List dl) (k:PK),(PK.gone k f l).s = k.s∧(PK.gone k f l).m = k.m∧(PK.gone k f l).caps = k.caps∧(PK.gone k f l).tabs.length = k.tabs.length
  | [],_=>⟨rfl,rfl,rfl,rfl⟩
  | p::l,k=>by
    obtain ⟨h1,h2,h3,h4⟩:=gone_s f l { k with tabs:=k.tabs.set p.fEnv.toNat (PK.unmap (PK.tab k p.fEnv) p.fSlot),pool:=(Pool.lets k.pool f).2.2 }
    rw [PK.gone]
    exact ⟨h1,h2,h3,by rw [h4]; simp⟩
theorem unmaps_app:∀ (l:List Int) (ps:List Pte) (i:Int),PK.unmaps ps (l++[i]) = (Table.remove (PK.unmaps ps l) i).2
  | [],_,_=>rfl
  | j::l,ps,i=>by rw [List.cons_append,PK.unmaps,PK.unmaps,unmaps_app l]
theorem revoke_loop {z:PZ} {k:PK} {l:List dl} {s7:Sl} {h:Hp} {K:gy→Hp→Prop} (c:Cap × Bool) (ok:PK.Ok k) (h1:z.tp.length = k.tabs.length) (hl:∀ p ∈ l,Caps.has k.caps p.fEnv p.fSlot = true) (hb:l.length ≤ 1000)
    (s0:aP (vP s7 l::plainL z k) h) (kk:∀ h',aP [bE (some (z.b,0)) (PK.gone k c.1.fFrame l)] h'→K ⟨0,IntKind.u64.wrap l.length⟩ h'):Lp (gJ K (z.b,0) c s7) 0 h:=by
  have hsl:=(cq (j:=0) s0 rfl).1
  have hts:=(cq (j:=3) s0 rfl).1
  refine Lp.intro (fun (i:Int) h=>∃ n:Nat,i = n∧n ≤ l.length∧aP (vP s7 l::plainL z (PK.gone k c.1.fFrame (l.take n))) h) (fun (i:Int) _=>l.length - i.toNat) ⟨0,rfl,Nat.zero_le _,s0⟩ ?_
  rintro i h ⟨n,rfl,hn,s1⟩
  unfold gJ
  refine bk (fun d=>?_) (fun d=>?_)
  · have hlt:n < l.length:=by rw [hsl] at d; simpa using d
    have hw:IntKind.i64.wrap ((n:Int) + 1) = ((n + 1:Nat):Int):=by rw [cf (by omega) (by omega)]; rfl
    have okn:=ok_gone (l.take n) ok c.1.fFrame
    obtain ⟨g1,g2,g3,g4⟩:=gone_s c.1.fFrame (l.take n) k
    have ht:l.take (n + 1) = l.take n++[l[n]]:=by simp
    have step:PK.gone k c.1.fFrame (l.take (n + 1)) = { PK.gone k c.1.fFrame (l.take n) with tabs:=(PK.gone k c.1.fFrame (l.take n)).tabs.set l[n].fEnv.toNat (PK.unmap (PK.tab (PK.gone k c.1.fFrame (l.take n)) l[n].fEnv) l[n].fSlot),pool:=(Pool.lets (PK.gone k c.1.fFrame (l.take n)).pool c.1.fFrame).2.2 }:=by
      rw [ht,gone_app]; rfl
    generalize hk:PK.gone k c.1.fFrame (l.take n) = kn at *
    obtain ⟨a,b,ea,eb,ha,hb'⟩:=Caps.has_nat (hl _ (List.getElem_mem hlt))
    have ha':a < kn.tabs.length:=by have:=ok.tl; have:=ok.cl; omega
    have hap:a < z.tp.length:=by omega
    refine dE s1 (j:=0) rfl (by omega) (by omega) fun q hq=>?_
    refine eC (j:=0) (i:=n) (k:=0) l[n] vi s1 rfl hq (by simp) (aO hlt) (by simp) ?_
    refine bB z.ts s1 (i:=1) rfl rfl rfl ?_
    refine dE s1 (j:=3) rfl (by omega) (by omega) fun q2 hq2=>?_
    refine eC (j:=3) (i:=a) (k:=0) z.tp[a] gP s1 rfl hq2 (by rw [ea]; simp) (aO hap) (by simp) ?_
    have s2:=jl (aO hap) (aO ha') (bp [4] s1 rfl)
    refine cl_n (sp_table_By z.tp[a] kn.tabs[a] l[n].fSlot) (i:=0) rfl s2 fun r77 h3 s3=>?_
    have hpl:=(cq (j:=0) s3 rfl).1
    have hp8:(Table.by_ kn.tabs[a] l[n].fSlot).length ≤ 8:=by have:=by_len l[n].fSlot kn.tabs[a] 0; have:=(okn.tr _ (List.getElem_mem ha')).1; unfold Table.by_; omega
    refine Lp.intro (fun (i:Int) h=>∃ m:Nat,i = m∧m ≤ (Table.by_ kn.tabs[a] l[n].fSlot).length∧aP [vI r77 (Table.by_ kn.tabs[a] l[n].fSlot),db z.tp[a] (PK.unmaps kn.tabs[a] ((Table.by_ kn.tabs[a] l[n].fSlot).take m)),but db z.tp kn.tabs a,vP s7 l,blk z.b cG (pQ kn.s z),ij z.pm kn.m,vQ eq z.ts z.tp,fP z.pp kn.pool,cR z.pc kn.caps] h) (fun (i:Int) _=>(Table.by_ kn.tabs[a] l[n].fSlot).length - i.toNat) ⟨0,rfl,Nat.zero_le _,s3⟩ ?_
    rintro i h ⟨m,rfl,hm,s4⟩
    unfold jM
    refine bk (fun d2=>?_) (fun d2=>?_)
    · have hlt2:m < (Table.by_ kn.tabs[a] l[n].fSlot).length:=by rw [hpl] at d2; simpa using d2
      have hw2:IntKind.i64.wrap ((m:Int) + 1) = ((m + 1:Nat):Int):=by rw [cf (by omega) (by omega)]; rfl
      refine dE s4 (j:=0) rfl (by omega) (by omega) fun q3 hq3=>?_
      refine eC (j:=0) (i:=m) (k:=0) (Table.by_ kn.tabs[a] l[n].fSlot)[m] (dk _) s4 rfl hq3 (by simp) (aO hlt2) (by simp) ?_
      refine bB z.ts s4 (i:=4) rfl rfl rfl ?_
      refine dE s4 (j:=6) rfl (by omega) (by omega) fun q4 hq4=>?_
      refine eC (j:=6) (i:=a) (k:=0) z.tp[a] gP s4 rfl hq4 (by rw [ea]; simp) (aO hap) (by simp) ?_
      refine bZ (sp_table_Remove z.tp[a] _ _) (i:=1) rfl s4 fun r h5 hr s5=>?_
      rw [hw2]
      refine ⟨⟨m + 1,rfl,hlt2,?_⟩,by simp; omega⟩
      have ht2:(Table.by_ kn.tabs[a] l[n].fSlot).take (m + 1) = (Table.by_ kn.tabs[a] l[n].fSlot).take m++[(Table.by_ kn.tabs[a] l[n].fSlot)[m]]:=by simp
      rw [ht2,unmaps_app]
      exact s5
    · have:m = (Table.by_ kn.tabs[a] l[n].fSlot).length:=by rw [hpl] at d2; simp at d2; omega
      subst this
      rw [List.take_length] at s4
      have s5:=xh (aO hap) ha' (by omega) (ct (l:=[vI r77 (Table.by_ kn.tabs[a] l[n].fSlot)]) s4)
      refine bB z.pp s5 (i:=2) rfl rfl rfl ?_
      refine bZ (sp_pool_Let z.pp kn.pool c.1.fFrame) (i:=5) rfl s5 fun r h6 hr s6=>?_
      rw [hw]
      refine ⟨⟨n + 1,rfl,hlt,?_⟩,by simp; omega⟩
      rw [step,ea]
      have e1:PK.tab kn (a:Int) = kn.tabs[a]:=(tab_of okn ha').1
      rw [e1]
      exact bp [1,1,1,1] s6 rfl
  · have:n = l.length:=by rw [hsl] at d; simp at d; omega
    subst this
    rw [List.take_length] at s1
    rw [hsl]
    obtain ⟨g1,g2,g3,g4⟩:=gone_s c.1.fFrame l k
    exact kk h (dc (by omega) (ok_gone l ok _) (ct (l:=[vP s7 l]) s1))
theorem sp_plain_revoke (x:Ptr) (k:PK) (e s:Int) (w:Bool):Sp Tryz.prog kx [pv x,.int .i64 e,.int .i64 s,.bool w] gQ [bE x k] (fun r=>pa_ (r = (PK.revoke k e s w).1) [bE x (PK.revoke k e s w).2]):=by
  intro h s0
  obtain ⟨z,rfl,h1,ok,hl,st⟩:=fJ s0
  have o1:=Caps.ok_revoke ok.tree e s
  have f1:=Caps.fine_revoke ok.tree ok.fine e s
  have len1:(Caps.revoke k.caps e s).1.1.length ≤ 32∧∀ p ∈ (Caps.revoke k.caps e s).1.1,Caps.has k.caps p.fEnv p.fSlot = true:=by
    unfold Caps.revoke; split
    · exact ⟨by simp,fun p hp=>by cases hp⟩
    · have:=all_len (fun _ _ c=>Caps.under k.caps c ⟨e,s⟩) k.caps 0 ok.tree.row
      have:=ok.tree.len
      exact ⟨by show (Caps.below k.caps e s).length ≤ 32; unfold Caps.below; omega,fun p hp=>((Caps.mem_below ok.tree).1 hp).1⟩
  have len2:(Caps.drop (Caps.revoke k.caps e s).2 e s).1.1.length ≤ 32∧∀ p ∈ (Caps.drop (Caps.revoke k.caps e s).2 e s).1.1,Caps.has k.caps p.fEnv p.fSlot = true:=by
    unfold Caps.drop; split
    · exact ⟨by simp,fun p hp=>by cases hp⟩
    · have:=all_len (fun a b c=>aR.eqb ⟨a,b⟩ ⟨e,s⟩ || Caps.under (Caps.revoke k.caps e s).2 c ⟨e,s⟩) (Caps.revoke k.caps e s).2 0 o1.row
      have:=o1.len
      refine ⟨by show (Caps.own (Caps.revoke k.caps e s).2 e s).length ≤ 32; unfold Caps.own; omega,fun p hp=>?_⟩
      have:=((Caps.mem_own o1).1 hp).1
      unfold Caps.has at this ⊢
      rw [Caps.revoke_len] at this
      exact this
  refine uL _ _ _ _ ?_
  unfold og
  refine cO (bB z.pc st (i:=0) rfl rfl rfl ?_)
  refine bZ (jL z.pc k.caps e s) (i:=5) rfl st fun c h2 hc s2=>?_
  subst hc
  refine bB z.pc s2 (i:=0) rfl rfl rfl ?_
  refine cl_p (sp_caps_Revoke z.pc k.caps e s) (i:=5) rfl s2 fun r h3 hr s3=>?_
  unfold gK
  refine bk (fun d=>?_) (fun d=>?_)
  · have d':w = true∧r.2 = 0:=by simpa using d
    have hno:¬ (Caps.revoke k.caps e s).1.2 ≠ 0:=by rw [← hr]; simp [d'.2]
    obtain ⟨rfl,d2⟩:=d'
    have e1:PK.revoke k e s true = (⟨0,IntKind.u64.wrap ((Caps.revoke k.caps e s).1.1++(Caps.drop (Caps.revoke k.caps e s).2 e s).1.1).length⟩,
      PK.gone { k with caps:=(Caps.drop (Caps.revoke k.caps e s).2 e s).2 } (Caps.at_ k.caps e s).1.fFrame ((Caps.revoke k.caps e s).1.1++(Caps.drop (Caps.revoke k.caps e s).2 e s).1.1)):=by unfold PK.revoke; rw [if_neg hno,if_pos rfl]
    rw [e1]
    refine bB z.pc s3 (i:=1) rfl rfl rfl ?_
    refine cl_p (sp_caps_Drop z.pc _ e s) (i:=6) rfl s3 fun r4 h4 hr4 s4=>?_
    refine tn (τ:=dl) (i:=1) (j:=0) (enc:=aR.C) (ys:=(Caps.drop (Caps.revoke k.caps e s).2 e s).1.1) tg tg.sl vi place_one s4 rfl rfl (by omega) (by omega) (by omega) fun v h5 s5=>?_
    refine dJ (by simp [d2]) ?_
    refine revoke_loop _ (ok_caps ok (by rw [Caps.drop_len,Caps.revoke_len]) (Caps.ok_drop o1 _ _) (Caps.fine_drop o1 f1 _ _)) h1 ?_ (by simp; omega) (ct (l:=[vP r4.1 (Caps.drop (Caps.revoke k.caps e s).2 e s).1.1]) s5) fun h' s'=>bi rfl s'
    intro p hp
    unfold Caps.has
    simp only [Caps.drop_len,Caps.revoke_len]
    rcases List.mem_append.1 hp with hp | hp
    · exact len1.2 p hp
    · exact len2.2 p hp
  · refine bk (fun d2=>?_) (fun d2=>?_)
    · have d2':(Caps.revoke k.caps e s).1.2 ≠ 0:=by rw [← hr]; simpa using d2
      have e1:PK.revoke k e s w = (⟨(Caps.revoke k.caps e s).1.2,0⟩,k):=if_pos d2'
      rw [e1]
      rw [(revoke_no d2').1] at s3
      exact bi (by rw [hr]) (dc h1 ok (ct (l:=[vP r.1 _]) s3))
    · have d2':¬ (Caps.revoke k.caps e s).1.2 ≠ 0:=by rw [← hr]; simpa using d2
      have hw:w = false:=by
        cases w with
        | false=>rfl
        | true=>simp at d d2; exact absurd d2 d
      subst hw
      have e1:PK.revoke k e s false = (⟨0,IntKind.u64.wrap (Caps.revoke k.caps e s).1.1.length⟩,PK.gone { k with caps:=(Caps.revoke k.caps e s).2 } (Caps.at_ k.caps e s).1.fFrame (Caps.revoke k.caps e s).1.1):=by unfold PK.revoke; rw [if_neg d2',if_neg Bool.false_ne_true]
      rw [e1]
      refine revoke_loop _ (ok_caps ok (by rw [Caps.revoke_len]) o1 f1) h1 ?_ (by omega) s3 fun h' s'=>bi rfl s'
      intro p hp
      unfold Caps.has
      simp only [Caps.revoke_len]
      exact len1.2 p hp
theorem sp_plain_maps (x:Ptr) (k:PK) (e pg s r:Int) (he:PK.off k e = false):Sp Tryz.prog mq [pv x,.int .i64 e,.int .i64 pg,.int .i64 s,.int .i64 r] bv [bE x k] (fun v=>pa_ (v = (PK.maps k e pg s r).1) [bE x (PK.maps k e pg s r).2]):=by
  intro h s0
  obtain ⟨z,rfl,h1,ok,hl,st⟩:=fJ s0
  have ok2:=ok_maps ok e pg s r
  obtain ⟨n,rfl,hn⟩:=off_nat ok he
  have hn':n < z.tp.length:=by omega
  have ht:PK.tab k (n:Int) = k.tabs[n]:=(tab_of ok hn).1
  refine sim_plain_Kernel_maps _ _ _ _ _ ?_
  unfold qu
  refine cO (bB z.pc st (i:=0) rfl rfl rfl ?_)
  refine bZ (jL z.pc k.caps n s) (i:=5) rfl st fun c h2 hc s2=>?_
  subst hc
  refine bk (fun d=>?_) (fun d=>?_)
  · have d':(Caps.at_ k.caps n s).2 = false:=by simpa using d
    have e1:PK.maps k n pg s r = (3,k):=if_pos d'
    rw [e1]; exact bi rfl (dc h1 ok s2)
  · have d':¬ (Caps.at_ k.caps n s).2 = false:=by simpa using d
    refine bB z.ts s2 (i:=0) rfl rfl rfl ?_
    refine dE s2 (j:=2) rfl (by omega) (by omega) fun q hq=>?_
    refine eC (j:=2) (i:=n) (k:=0) z.tp[n] gP s2 rfl hq (by simp) (aO hn') (by simp) ?_
    have s3:=jl (aO hn') (aO hn) (bp [3] s2 rfl)
    refine bZ (ny z.tp[n] k.tabs[n] pg) (i:=0) rfl s3 fun v h4 hv s4=>?_
    subst hv
    have back:∀ h,aP (db z.tp[n] k.tabs[n]::but db z.tp k.tabs n::blk z.b cG (pQ k.s z)::ij z.pm k.m::vQ eq z.ts z.tp::fP z.pp k.pool::cR z.pc k.caps::[]) h→aP [bE (some (z.b,0)) k] h :=
      fun h s=>dc h1 ok (bp [1,1,1] (vN (aO hn') (aO hn) h1 s) rfl)
    refine bk (fun d2=>?_) (fun d2=>?_)
    · have e1:PK.maps k n pg s r = (4,k):=by unfold PK.maps; rw [if_neg d',ht,if_pos d2]
      rw [e1]; exact bi rfl (back _ s4)
    · have d2':¬ (Table.get k.tabs[n] pg).2 = true:=by rw [d2]; exact Bool.false_ne_true
      refine bk (fun d3=>?_) (fun d3=>?_)
      · have e1:PK.maps k n pg s r = (5,k):=by unfold PK.maps; rw [if_neg d',ht,if_neg d2',if_pos (by simpa using d3)]
        rw [e1]; exact bi rfl (back _ s4)
      · have e1:PK.maps k n pg s r = ((Table.insert k.tabs[n] pg ⟨(Caps.at_ k.caps n s).1.fFrame,s,r⟩).1,{ k with tabs:=k.tabs.set n (Table.insert k.tabs[n] pg ⟨(Caps.at_ k.caps n s).1.fFrame,s,r⟩).2 }):=by
          unfold PK.maps; rw [if_neg d',ht,if_neg d2',if_neg (by simpa using d3)]; rfl
        rw [e1] at ok2 ⊢
        refine bB z.ts s4 (i:=2) rfl rfl rfl ?_
        refine dE s4 (j:=4) rfl (by omega) (by omega) fun q2 hq2=>?_
        refine eC (j:=4) (i:=n) (k:=0) z.tp[n] gP s4 rfl hq2 (by simp) (aO hn') (by simp) ?_
        refine bZ (jY z.tp[n] k.tabs[n] pg ⟨(Caps.at_ k.caps n s).1.fFrame,s,r⟩) (i:=0) rfl s4 fun v h5 hv s5=>?_
        subst hv
        exact bi rfl (dc (k:={ k with tabs:=_ }) (by simpa using h1) ok2 (bp [1,1,1] (xh (aO hn') hn h1 s5) rfl))
theorem sp_plain_protect (x:Ptr) (k:PK) (e pg r:Int) (he:PK.off k e = false):Sp Tryz.prog jR [pv x,.int .i64 e,.int .i64 pg,.int .i64 r] bv [bE x k] (fun v=>pa_ (v = (PK.protect k e pg r).1) [bE x (PK.protect k e pg r).2]):=by
  intro h s0
  obtain ⟨z,rfl,h1,ok,hl,st⟩:=fJ s0
  have ok2:=ok_protect ok e pg r
  obtain ⟨n,rfl,hn⟩:=off_nat ok he
  have hn':n < z.tp.length:=by omega
  have ht:PK.tab k (n:Int) = k.tabs[n]:=(tab_of ok hn).1
  refine uu _ _ _ _ ?_
  unfold nA
  refine cO (bB z.ts st (i:=0) rfl rfl rfl ?_)
  refine dE st (j:=2) rfl (by omega) (by omega) fun q hq=>?_
  refine eC (j:=2) (i:=n) (k:=0) z.tp[n] gP st rfl hq (by simp) (aO hn') (by simp) ?_
  have s3:=jl (aO hn') (aO hn) (bp [3] st rfl)
  refine bZ (ny z.tp[n] k.tabs[n] pg) (i:=0) rfl s3 fun v h4 hv s4=>?_
  subst hv
  have back:∀ h,aP (db z.tp[n] k.tabs[n]::but db z.tp k.tabs n::blk z.b cG (pQ k.s z)::ij z.pm k.m::vQ eq z.ts z.tp::fP z.pp k.pool::cR z.pc k.caps::[]) h→aP [bE (some (z.b,0)) k] h :=
    fun h s=>dc h1 ok (bp [1,1,1] (vN (aO hn') (aO hn) h1 s) rfl)
  refine bk (fun d=>?_) (fun d=>?_)
  · have e1:PK.protect k n pg r = (3,k):=by unfold PK.protect; rw [ht,if_pos (by simpa using d)]
    rw [e1]; exact bi rfl (back _ s4)
  · have d':¬ (Table.get k.tabs[n] pg).2 = false:=by simpa using d
    refine bB z.pc s4 (i:=2) rfl rfl rfl ?_
    refine bZ (jL z.pc k.caps n _) (i:=6) rfl s4 fun c h5 hc s5=>?_
    subst hc
    refine bk (fun d2=>?_) (fun d2=>?_)
    · have e1:PK.protect k n pg r = (5,k):=by unfold PK.protect; rw [ht,if_neg d',if_pos (by simpa using d2)]
      rw [e1]; exact bi rfl (back _ s5)
    · have e1:PK.protect k n pg r = ((Table.protect k.tabs[n] pg r).1,{ k with tabs:=k.tabs.set n (Table.protect k.tabs[n] pg r).2 }):=by
        unfold PK.protect; rw [ht,if_neg d',if_neg (by simpa using d2)]; rfl
      rw [e1] at ok2 ⊢
      refine bB z.ts s5 (i:=2) rfl rfl rfl ?_
      refine dE s5 (j:=4) rfl (by omega) (by omega) fun q2 hq2=>?_
      refine eC (j:=4) (i:=n) (k:=0) z.tp[n] gP s5 rfl hq2 (by simp) (aO hn') (by simp) ?_
      refine bZ (sp_table_Protect z.tp[n] k.tabs[n] pg r) (i:=0) rfl s5 fun v h6 hv s6=>?_
      subst hv
      exact bi rfl (dc (k:={ k with tabs:=_ }) (by simpa using h1) ok2 (bp [1,1,1] (xh (aO hn') hn h1 s6) rfl))
theorem sp_plain_sleep (x:Ptr) (k:PK) (e:Int) (c:jE):Sp Tryz.prog lg [pv x,.int .i64 e,.agg c.C.toArray] bz [bE x k] (fun v=>pa_ (v = PK.sleep k e c) [bE x k]):=by
  intro h s0
  obtain ⟨z,rfl,h1,ok,hl,st⟩:=fJ s0
  refine wj _ _ _ ?_
  unfold oW
  refine cO (bB z.pc st (i:=0) rfl rfl rfl ?_)
  refine bZ (jL z.pc k.caps e _) (i:=5) rfl st fun v h2 hv s2=>?_
  subst hv
  refine bk (fun d=>?_) (fun d=>?_)
  · exact bi (by unfold PK.sleep; rw [if_pos (by simpa using d)]; rfl) (dc h1 ok s2)
  · refine bk (fun d2=>?_) (fun d2=>?_)
    · exact bi (by unfold PK.sleep; rw [if_neg (by simpa using d),if_pos (by simpa using d2)]; rfl) (dc h1 ok s2)
    · refine bB z.pm s2 (i:=0) rfl rfl rfl ?_
      refine bZ (qq z.pm k.m _ _) (i:=1) rfl s2 fun v h3 hv s3=>?_
      subst hv
      refine bk (fun d3=>?_) (fun d3=>?_)
      · exact bi (by unfold PK.sleep; rw [if_neg (by simpa using d),if_neg (by simpa using d2),if_pos (by simpa using d3)]) (dc h1 ok s3)
      · exact bi (by unfold PK.sleep; rw [if_neg (by simpa using d),if_neg (by simpa using d2),if_neg (by simpa using d3)]) (dc h1 ok s3)
theorem sp_plain_user (x:Ptr) (k:PK) (e:Int) (c:jE) (he:PK.off k e = false):Sp Tryz.prog mj [pv x,.int .i64 e,.agg c.C.toArray] gQ [bE x k] (fun v=>pa_ (v = (PK.user k e c).1) [bE x (PK.user k e c).2]):=by
  intro h s0
  obtain ⟨z,rfl,h1,ok,hl,st⟩:=fJ s0
  obtain ⟨n,rfl,hn⟩:=off_nat ok he
  have hn':n < z.tp.length:=by omega
  have ht:PK.tab k (n:Int) = k.tabs[n]:=(tab_of ok hn).1
  refine sim_plain_Kernel_user _ _ _ ?_
  unfold qr
  refine cO (bB z.ts st (i:=0) rfl rfl rfl ?_)
  refine dE st (j:=2) rfl (by omega) (by omega) fun q hq=>?_
  refine eC (j:=2) (i:=n) (k:=0) z.tp[n] gP st rfl hq (by simp) (aO hn') (by simp) ?_
  have s3:=jl (aO hn') (aO hn) (bp [3] st rfl)
  refine bZ (ny z.tp[n] k.tabs[n] _) (i:=0) rfl s3 fun v h4 hv s4=>?_
  subst hv
  have s5:aP [bE (some (z.b,0)) k] h4:=dc h1 ok (bp [1,1,1] (vN (aO hn') (aO hn) h1 s4) rfl)
  refine bk (fun d=>?_) (fun d=>?_)
  · have e1:PK.user k n c = (⟨7,0⟩,k):=by unfold PK.user; rw [ht,if_pos (by simpa using d)]
    rw [e1]; exact bi rfl s5
  · have e1:PK.user k n c = ((PK.touch k (Table.get k.tabs[n] (IntKind.i64.wrap c.e1)).1.fFrame c).1.1,(PK.touch k (Table.get k.tabs[n] (IntKind.i64.wrap c.e1)).1.fFrame c).2):=by unfold PK.user; rw [ht,if_neg (by simpa using d)]
    rw [e1]
    refine bZ (nY (some (z.b,0)) k _ c) (i:=0) rfl s5 fun v h6 hv s6=>?_
    subst hv
    exact bi rfl s6
theorem jG (x:Ptr) (k:PK) (e:Int) (c:jE):Sp Tryz.prog dD [pv x,.int .i64 e,.agg c.C.toArray] bz [bE x k] (fun v=>pa_ (v = (PK.do_ k e c).1) [bE x (PK.do_ k e c).2]):=by
  intro h s0
  refine sim_plain_Kernel_Do _ _ _ ?_
  unfold sA
  refine bZ (sp_plain_off x k e) (i:=0) rfl s0 fun v h1 hv s1=>?_
  subst hv
  refine bk (fun d=>?_) (fun d=>?_)
  · have e1:PK.do_ k e c = ((⟨10,0⟩,true),k):=if_pos d
    rw [e1]; exact bi rfl s1
  · have d':¬ PK.off k e = true:=by rw [d]; exact Bool.false_ne_true
    obtain ⟨z,rfl,hz,ok,hl,st⟩:=fJ s1
    refine cO (bB k.s.fEnvs st (i:=0) rfl rfl rfl ?_)
    refine ti (iZ c _) st fun v h2 hv st2=>?_
    subst hv
    have s2:=dc hz ok st2
    refine bk (fun d2=>?_) (fun d2=>?_)
    · have e1:PK.do_ k e c = ((⟨Word.check c k.s.fEnvs,0⟩,true),k):=by unfold PK.do_; rw [if_neg d',if_pos (by simpa using d2)]
      rw [e1]; exact bi rfl s2
    · have e1:PK.do_ k e c = PK.does k e c:=by unfold PK.do_; rw [if_neg d',if_neg (by simpa using d2)]
      rw [e1]
      unfold jN
      refine bk (fun c1=>?_) (fun c1=>?_)
      · have ed:PK.does k e c = PK.errs (PK.alloc k e (IntKind.i64.wrap c.e1)):=by unfold PK.does; rw [if_pos (by simpa using c1)]
        rw [ed]
        exact bZ (sp_plain_alloc (some (z.b,0)) k e _) (i:=0) rfl s2 fun v h3 hv s3=>bi (by rw [hv]; rfl) s3
      refine bk (fun c2=>?_) (fun c2=>?_)
      · have ed:PK.does k e c = PK.errs (PK.derive k e (IntKind.i64.wrap c.e1) e (IntKind.i64.wrap c.e2) (IntKind.i64.wrap c.e3)):=by unfold PK.does; rw [if_neg (by simpa using c1),if_pos (by simpa using c2)]
        rw [ed]
        exact bZ (sp_plain_derive (some (z.b,0)) k e _ _ _ _) (i:=0) rfl s2 fun v h3 hv s3=>bi (by rw [hv]; rfl) s3
      refine bk (fun c3=>?_) (fun c3=>?_)
      · have ed:PK.does k e c = PK.errs (PK.derive k e (IntKind.i64.wrap c.e1) (IntKind.i64.wrap c.e2) (IntKind.i64.wrap c.e3) (IntKind.i64.wrap c.e4)):=by unfold PK.does; rw [if_neg (by simpa using c1),if_neg (by simpa using c2),if_pos (by simpa using c3)]
        rw [ed]
        exact bZ (sp_plain_derive (some (z.b,0)) k e _ _ _ _) (i:=0) rfl s2 fun v h3 hv s3=>bi (by rw [hv]; rfl) s3
      refine bk (fun c4=>?_) (fun c4=>?_)
      · have ed:PK.does k e c = (((PK.revoke k e (IntKind.i64.wrap c.e1) true).1,true),(PK.revoke k e (IntKind.i64.wrap c.e1) true).2):=by unfold PK.does; rw [if_neg (by simpa using c1),if_neg (by simpa using c2),if_neg (by simpa using c3),if_pos (by simpa using c4)]
        rw [ed]
        exact bZ (sp_plain_revoke (some (z.b,0)) k e _ _) (i:=0) rfl s2 fun v h3 hv s3=>bi (by rw [hv]) s3
      refine bk (fun c5=>?_) (fun c5=>?_)
      · have ed:PK.does k e c = (((PK.revoke k e (IntKind.i64.wrap c.e1) false).1,true),(PK.revoke k e (IntKind.i64.wrap c.e1) false).2):=by unfold PK.does; rw [if_neg (by simpa using c1),if_neg (by simpa using c2),if_neg (by simpa using c3),if_neg (by simpa using c4),if_pos (by simpa using c5)]
        rw [ed]
        exact bZ (sp_plain_revoke (some (z.b,0)) k e _ _) (i:=0) rfl s2 fun v h3 hv s3=>bi (by rw [hv]) s3
      refine bk (fun c6=>?_) (fun c6=>?_)
      · have ed:PK.does k e c = PK.errs (PK.maps k e (IntKind.i64.wrap c.e1) (IntKind.i64.wrap c.e2) (IntKind.i64.wrap c.e3)):=by unfold PK.does; rw [if_neg (by simpa using c1),if_neg (by simpa using c2),if_neg (by simpa using c3),if_neg (by simpa using c4),if_neg (by simpa using c5),if_pos (by simpa using c6)]
        rw [ed]
        exact bZ (sp_plain_maps (some (z.b,0)) k e _ _ _ d) (i:=0) rfl s2 fun v h3 hv s3=>bi (by rw [hv]; rfl) s3
      refine bk (fun c7=>?_) (fun c7=>?_)
      · have ed:PK.does k e c = PK.errs (PK.remove k e (IntKind.i64.wrap c.e1)):=by unfold PK.does; rw [if_neg (by simpa using c1),if_neg (by simpa using c2),if_neg (by simpa using c3),if_neg (by simpa using c4),if_neg (by simpa using c5),if_neg (by simpa using c6),if_pos (by simpa using c7)]
        rw [ed]
        obtain ⟨n,rfl,hn⟩:=off_nat ok d
        have hn':n < z.tp.length:=by omega
        have ht:PK.tab k (n:Int) = k.tabs[n]:=(tab_of ok hn).1
        have ok2:=ok_remove ok n (IntKind.i64.wrap c.e1)
        refine bB z.ts st2 (i:=0) rfl rfl rfl ?_
        refine dE st2 (j:=2) rfl (by omega) (by omega) fun q hq=>?_
        refine eC (j:=2) (i:=n) (k:=0) z.tp[n] gP st2 rfl hq (by simp) (aO hn') (by simp) ?_
        have s3:=jl (aO hn') (aO hn) (bp [3] st2 rfl)
        refine bZ (sp_table_Remove z.tp[n] k.tabs[n] _) (i:=0) rfl s3 fun v h4 hv s4=>?_
        subst hv
        unfold PK.errs PK.remove
        unfold PK.remove at ok2
        rw [ht] at ok2 ⊢
        exact bi rfl (dc (k:={ k with tabs:=_ }) (by simpa using hz) ok2 (bp [1,1,1] (xh (aO hn') hn hz s4) rfl))
      refine bk (fun c8=>?_) (fun c8=>?_)
      · have ed:PK.does k e c = PK.errs (PK.protect k e (IntKind.i64.wrap c.e1) (IntKind.i64.wrap c.e2)):=by unfold PK.does; rw [if_neg (by simpa using c1),if_neg (by simpa using c2),if_neg (by simpa using c3),if_neg (by simpa using c4),if_neg (by simpa using c5),if_neg (by simpa using c6),if_neg (by simpa using c7),if_pos (by simpa using c8)]
        rw [ed]
        exact bZ (sp_plain_protect (some (z.b,0)) k e _ _ d) (i:=0) rfl s2 fun v h3 hv s3=>bi (by rw [hv]; rfl) s3
      refine bk (fun c9=>?_) (fun c9=>?_)
      · have ed:PK.does k e c = (PK.sleep k e c,k):=by unfold PK.does; rw [if_neg (by simpa using c1),if_neg (by simpa using c2),if_neg (by simpa using c3),if_neg (by simpa using c4),if_neg (by simpa using c5),if_neg (by simpa using c6),if_neg (by simpa using c7),if_neg (by simpa using c8),if_pos (by simpa using c9)]
        rw [ed]
        exact bZ (sp_plain_sleep (some (z.b,0)) k e c) (i:=0) rfl s2 fun v h3 hv s3=>bi (by rw [hv]) s3
      refine bk (fun c10=>?_) (fun c10=>?_)
      · have ed:PK.does k e c = ((⟨0,0⟩,true),k):=by unfold PK.does; rw [if_neg (by simpa using c1),if_neg (by simpa using c2),if_neg (by simpa using c3),if_neg (by simpa using c4),if_neg (by simpa using c5),if_neg (by simpa using c6),if_neg (by simpa using c7),if_neg (by simpa using c8),if_neg (by simpa using c9),if_pos (by simpa using c10)]
        rw [ed]
        exact bi rfl s2
      have ed:PK.does k e c = (((PK.user k e c).1,true),(PK.user k e c).2):=by unfold PK.does; rw [if_neg (by simpa using c1),if_neg (by simpa using c2),if_neg (by simpa using c3),if_neg (by simpa using c4),if_neg (by simpa using c5),if_neg (by simpa using c6),if_neg (by simpa using c7),if_neg (by simpa using c8),if_neg (by simpa using c9),if_neg (by simpa using c10)]
      rw [ed]
      exact bZ (sp_plain_user (some (z.b,0)) k e c d) (i:=0) rfl s2 fun v h3 hv s3=>bi (by rw [hv]) s3
theorem sp_plain_Free (x:Ptr) (k:PK):Sp Tryz.prog ms [pv x] cJ [bE x k] (fun r=>aP [vI r (Pool.free k.pool),bE x k]):=by
  intro h s0
  obtain ⟨z,rfl,h1,ok,hl,st⟩:=fJ s0
  refine sim_plain_Kernel_Free _ ?_
  unfold qv
  refine dJ rfl (cO (bB z.pp st (i:=0) rfl rfl rfl ?_))
  refine cl_n (sp_pool_Free z.pp k.pool) (i:=4) rfl st fun v h2 s2=>?_
  exact star_tail s2 fun h3 s3=>dc h1 ok s3
theorem new_eq (s:kQ) (n:Nat) (hn:s.fEnvs = n) (m:Nat) (hm:s.fFrames = m):PK.new s = ⟨s,List.replicate m (List.replicate 16 0),List.replicate n (List.replicate 8 eE),List.replicate m 0,List.replicate n (List.replicate 8 rd)⟩:=by
  unfold PK.new; rw [hn,hm]; rfl
theorem rI (s:kQ) (hs:PK.sized s = true):Sp Tryz.prog nE [.agg s.C.toArray] dP [] (fun r=>aP [bE r (PK.new s)]):=by
  intro h st
  refine sim_plain_New _ ?_
  unfold sh_plain_New
  refine dJ ?_ ?_
  · unfold PK.sized at hs; simpa using hs
  · skip
    have hs':=jq.1 hs
    have okn:=ok_new hs
    obtain ⟨n,hn⟩:=Int.eq_ofNat_of_zero_le (show 0 ≤ s.fEnvs by omega)
    obtain ⟨m,hm⟩:=Int.eq_ofNat_of_zero_le (show 0 ≤ s.fFrames by omega)
    rw [new_eq s n hn m hm] at okn ⊢
    refine my (sp_mem_New s.fFrames (by omega) (by omega)) st fun pm h1 s1=>?_
    refine my (sp_pool_New s.fFrames (by omega) (by omega)) s1 fun pp h2 s2=>?_
    refine my (sp_caps_New s.fEnvs (by omega) (by omega)) s2 fun pc h3 s3=>?_
    refine oS s3 fun b h4 s4=>?_
    have s5:=fI (τ:=Ptr) (T:=eq) (m:=1) (enc:=cP) (all_nil (A:=db) s4)
    simp only [hn,hm,Int.toNat_natCast] at s5
    refine Lp.intro (fun (i:Int) h=>∃ (j:Nat) (ts:Sl) (tp:List Ptr),i = j∧j ≤ n∧tp.length = j∧aP [vQ eq ts tp,all db tp (List.replicate j (List.replicate 8 eE)),blk b cG (pQ s ⟨b,pm,ts,tp,pp,pc⟩),cR pc (List.replicate n (List.replicate 8 rd)),fP pp (List.replicate m 0),ij pm (List.replicate m (List.replicate 16 0))] h) (fun (i:Int) _=>n - i.toNat) ⟨0,⟨none,0,0,none⟩,[],rfl,Nat.zero_le _,rfl,?_⟩ ?_
    · have:pQ s ⟨b,pm,⟨none,0,0,none⟩,[],pp,pc⟩ = gc.C (⟨s,pm,(⟨none,0,0,none⟩:Sl),pp,pc⟩:gc):=rfl
      rw [this]; exact s5
    · rintro i h ⟨j,ts,tp,rfl,hj,htp,s6⟩
      unfold wG
      refine bk (fun d2=>?_) (fun d2=>?_)
      · have hlt:j < n:=by rw [hn] at d2; simpa using d2
        have hw:IntKind.i64.wrap ((j:Int) + 1) = ((j + 1:Nat):Int):=by rw [cf (by omega) (by omega)]; rfl
        have fin:∀ (r53:Ptr) (v55:Sl) (h:Hp),aP [vQ eq v55 (tp++[r53]),db r53 (List.replicate 8 eE),all db tp (List.replicate j (List.replicate 8 eE)),blk b cG (pQ s ⟨b,pm,ts,tp,pp,pc⟩),cR pc (List.replicate n (List.replicate 8 rd)),fP pp (List.replicate m 0),ij pm (List.replicate m (List.replicate 16 0))] h →
            Mb.st (b,4) [sv v55] (fun h=>(∃ (j':Nat) (ts:Sl) (tp:List Ptr),((j + 1:Nat):Int) = j'∧j' ≤ n∧tp.length = j'∧aP [vQ eq ts tp,all db tp (List.replicate j' (List.replicate 8 eE)),blk b cG (pQ s ⟨b,pm,ts,tp,pp,pc⟩),cR pc (List.replicate n (List.replicate 8 rd)),fP pp (List.replicate m 0),ij pm (List.replicate m (List.replicate 16 0))] h)∧n - ((j + 1:Nat):Int).toNat < n - (j:Int).toNat) h:=by
          intro r53 v55 h s7
          refine uq (i:=3) s7 rfl (show 4 + 1 ≤ 7 by decide) fun h8 s8=>?_
          refine ⟨⟨j + 1,v55,tp++[r53],rfl,hlt,by simp [htp],?_⟩,by simp; omega⟩
          have s9:=all_push (by simp [htp]) (bp [1,1] s8 rfl)
          have e:List.replicate j (List.replicate 8 eE)++[List.replicate 8 eE] = List.replicate (j + 1) (List.replicate 8 eE):=List.replicate_succ'.symm
          rw [e] at s9
          exact bp [1] s9 rfl
        rw [hw]
        refine ⟨?_,?_⟩
        · refine bB ts s6 (i:=2) rfl rfl rfl ?_
          refine my nX s6 fun r53 h7 s7=>?_
          refine kr (τ:=Ptr) (i:=1) (enc:=cP) (val:=fun x=>pv x) vD gP cP_one (fun _=>rfl) (by omega) rfl rfl s7 rfl (by omega) (by omega) fun v h8 s8=>?_
          exact fin r53 v h8 (bp [1] s8 rfl)
        · refine my nX s6 fun r53 h7 s7=>?_
          refine bB ts s7 (i:=3) rfl rfl rfl ?_
          refine kr (τ:=Ptr) (i:=1) (enc:=cP) (val:=fun x=>pv x) vD gP cP_one (fun _=>rfl) (by omega) rfl rfl s7 rfl (by omega) (by omega) fun v h8 s8=>?_
          exact fin r53 v h8 (bp [1] s8 rfl)
      · have:j = n:=by rw [hn] at d2; simp at d2; omega
        subst this
        refine dc (z:=⟨b,pm,ts,tp,pp,pc⟩) ?_ okn (bp [2,4,0,0,1] s6 rfl)
        simpa using htp
end Go.Proofs.YtniiiakkdoiaiaaGreatDoor
