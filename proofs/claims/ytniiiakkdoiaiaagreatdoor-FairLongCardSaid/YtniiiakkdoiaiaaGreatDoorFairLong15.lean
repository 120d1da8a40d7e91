/- Part of the proof of: For every number of cores, every gap and every core, messuagelaw16.FairLong returns true and leaves its arguments as they were; errors.errorType holds the handle of the type error when the call begins. -/
import Derived.Test.YtniiiakkdoiaiaaGreatDoorFairLong14
set_option linter.all false
namespace Go.Proofs.YtniiiakkdoiaiaaGreatDoor
open Go Mb
theorem sp_plain_more (zb ob:Nat) (kc oc:List Value) (ts:Sl) (pc po:Ptr) (t o:Caps.T) (h4:kc[4]? = some (sv ts)) (h6:kc[6]? = some (pv pc)) (o6:oc[6]? = some (pv po)) (hl:ts.len = o.length) (hb:o.length ≤ 4) :
    Sp Tryz.prog lY [pv (some (zb,0)),pv (some (ob,0))] aH [blk zb cA kc,cM pc t,blk ob cA oc,cM po o]
      (fun r=>pa_ (r = (Caps.moreE o o.length (false,t)).1) [blk zb cA kc,cM pc (Caps.moreE o o.length (false,t)).2,blk ob cA oc,cM po o]):=by
  intro h s0
  refine sim_plain_Kernel_more _ _ ?_
  unfold qe
  refine cJ (bA ts s0 (i:=0) rfl rfl h4 ?_)
  refine Lp.intro (fun (z:Bool × Int) h=>∃ m:Nat,z.2 = m∧m ≤ o.length∧z.1 = (Caps.moreE o m (false,t)).1∧aN [blk zb cA kc,cM pc (Caps.moreE o m (false,t)).2,blk ob cA oc,cM po o] h) (fun (z:Bool × Int) _=>o.length - z.2.toNat) ⟨0,rfl,Nat.zero_le _,rfl,s0⟩ ?_
  rintro ⟨b,i⟩ h ⟨m,rfl,hm,rfl,s1⟩
  unfold kN
  refine bi (fun k=>?_) (fun k=>?_)
  · have hlt:m < o.length:=by rw [hl] at k; simpa using k
    have hw:IntKind.i64.wrap ((m:Int) + 1) = ((m + 1:Nat):Int):=by rw [bT (by omega) (by omega)]; rfl
    refine Lp.intro (fun (z:Bool × Int) h=>∃ j:Nat,z.2 = j∧j ≤ 8∧z.1 = (Caps.moreS o m j (Caps.moreE o m (false,t))).1∧aN [blk zb cA kc,cM pc (Caps.moreS o m j (Caps.moreE o m (false,t))).2,blk ob cA oc,cM po o] h) (fun (z:Bool × Int) _=>8 - z.2.toNat) ⟨0,rfl,Nat.zero_le _,rfl,s1⟩ ?_
    rintro ⟨b,i⟩ h ⟨j,rfl,hj,rfl,s2⟩
    unfold kM
    refine bi (fun k2=>?_) (fun k2=>?_)
    · have hlt2:j < 8:=by have:=of_decide_eq_true k2; simp at this; omega
      have hw2:IntKind.i64.wrap ((j:Int) + 1) = ((j + 1:Nat):Int):=by rw [bT (by omega) (by omega)]; rfl
      have es:Caps.moreS o m (j + 1) (Caps.moreE o m (false,t)) = ((Caps.moreS o m j (Caps.moreE o m (false,t))).1 || (Caps.more1 o (Caps.moreS o m j (Caps.moreE o m (false,t))).2 m j).1,(Caps.more1 o (Caps.moreS o m j (Caps.moreE o m (false,t))).2 m j).2):=rfl
      generalize hst:Caps.moreS o m j (Caps.moreE o m (false,t)) = st at *
      refine cJ (bA po s2 (i:=2) rfl rfl o6 ?_)
      refine cd (jG po o m j) (i:=3) rfl s2 fun r h3 hr s3=>?_
      subst hr
      refine bA pc s3 (i:=0) rfl rfl h6 ?_
      refine cd (jG pc st.2 m j) (i:=1) rfl s3 fun r h4 hr s4=>?_
      subst hr
      rw [hw2]
      refine bi (fun k3=>?_) (fun k3=>?_)
      · have k3':(Caps.at_ o m j).2 = false∨(Caps.at_ st.2 m j).2 = true:=by simpa using k3
        have e1:Caps.more1 o st.2 m j = (false,st.2):=if_pos k3'
        refine ⟨⟨j + 1,rfl,hlt2,?_,?_⟩,by simp; omega⟩
        · rw [es,e1]; simp
        · rw [es,e1]; exact s4
      · have k3':¬ ((Caps.at_ o m j).2 = false∨(Caps.at_ st.2 m j).2 = true):=by simp at k3; simp [k3]
        refine bi (fun k4=>?_) (fun k4=>?_)
        · have e1:Caps.more1 o st.2 m j = ((Caps.root st.2 m j (Caps.at_ o m j).1.fFrame).1 == 0,(Caps.root st.2 m j (Caps.at_ o m j).1.fFrame).2):=by unfold Caps.more1; rw [if_neg k3',if_pos (by simpa using k4)]
          refine bA pc s4 (i:=0) rfl rfl h6 ?_
          refine cd (vv pc st.2 m j _) (i:=1) rfl s4 fun r h5 hr s5=>?_
          subst hr
          refine ⟨⟨j + 1,rfl,hlt2,?_,?_⟩,by simp; omega⟩
          · rw [es,e1]
          · rw [es,e1]; exact s5
        · have e1:Caps.more1 o st.2 m j = ((Caps.derive st.2 (Caps.at_ o m j).1.fEnv (Caps.at_ o m j).1.fSlot m j (Caps.at_ o m j).1.fRights).1 == 0,(Caps.derive st.2 (Caps.at_ o m j).1.fEnv (Caps.at_ o m j).1.fSlot m j (Caps.at_ o m j).1.fRights).2):=by unfold Caps.more1; rw [if_neg k3',if_neg (by simpa using k4)]
          refine bA pc s4 (i:=0) rfl rfl h6 ?_
          refine cd (rV pc st.2 _ _ m j _) (i:=1) rfl s4 fun r h5 hr s5=>?_
          subst hr
          refine ⟨⟨j + 1,rfl,hlt2,?_,?_⟩,by simp; omega⟩
          · rw [es,e1]
          · rw [es,e1]; exact s5
    · have:j = 8:=by have:=of_decide_eq_false k2; simp at this; omega
      subst this
      rw [hw]
      exact ⟨⟨m + 1,rfl,hlt,rfl,s2⟩,by simp; omega⟩
  · have:m = o.length:=by rw [hl] at k; simp at k; omega
    subst this
    exact bh rfl s1
section
variable {α:Type}
def fe (xs:List α) (d:α) (n:Nat):List α:=xs.take n++List.replicate (xs.length - n) d
theorem mixd_len (xs:List α) (d:α) {n:Nat} (h:n ≤ xs.length):(fe xs d n).length = xs.length:=by simp [fe]; omega
theorem rL (xs:List α) (d:α):fe xs d 0 = List.replicate xs.length d:=by simp [fe]
theorem uN (xs:List α) (d:α):fe xs d xs.length = xs:=by simp [fe]
theorem mixd_get (xs:List α) (d:α) {n:Nat} (h:n < xs.length):(fe xs d n)[n]? = some d:=by
  unfold fe
  rw [List.getElem?_append_right (by simp; omega),List.getElem?_replicate,if_pos (by simp; omega)]
theorem qn (xs:List α) (d:α) {n:Nat} (h:n < xs.length):(fe xs d n).set n xs[n] = fe xs d (n + 1):=by
  unfold fe
  rw [List.set_append_right _ _ (by simp; omega)]
  have e1:n - (xs.take n).length = 0:=by simp; omega
  have e2:xs.length - n = (xs.length - (n + 1)) + 1:=by omega
  rw [e1,e2,List.replicate_succ,List.set_cons_zero]
  have e3:xs.take (n + 1) = xs.take n++[xs[n]]:=by simp
  rw [e3,List.append_assoc]; rfl
end
theorem put_ok {p:Pte} (h:PteFine p) (h0:p.fRights ≠ 0):(gm p).2 = true:=by
  rcases h with h | ⟨h1,h2,h3,h4,h5⟩
  · rw [h] at h0; exact absurd rfl h0
  · unfold gm
    have e1:aq.eqb p ⟨0,0,0⟩ = false:=by
      unfold aq.eqb
      have:(p.fRights == 0) = false:=by simpa using h0
      simp [this]
    have e2:(((((decide (p.fFrame < 0)) || (decide (p.fFrame ≥ 16))) || (decide (p.fSlot < 0))) || (decide (p.fSlot ≥ 8))) || (!(cH p.fRights))) = false:=by
      simp [h5]; omega
    rw [e1,e2]; rfl
theorem insert_mixd {row:List Pte} (h:oW row) {j:Nat} (hj:j < 8) (hr:row[j]?.map (·.fRights) ≠ some 0):Table.insert (fe row eo j) j (row.getD j eo) = (0,fe row eo (j + 1)):=by
  have hjl:j < row.length:=by rw [h.1]; exact hj
  have hg:row.getD j eo = row[j]:=by simp [hjl]
  rw [hg]
  have h0:row[j].fRights ≠ 0:=by
    intro e; apply hr; rw [List.getElem?_eq_getElem hjl]; simp [e]
  have hp:=put_ok (h.2 _ (List.getElem_mem hjl)) h0
  have hat:Table.at_ (fe row eo j) j = eo:=by
    unfold Table.at_
    rw [Int.toNat_natCast,List.getD_eq_getElem?_getD,mixd_get row eo hjl]; rfl
  have his:cE j = true:=by unfold cE; simp; omega
  unfold Table.insert
  rw [if_neg (by simp [hp,h0,his]),hat,if_neg (by simp),Int.toNat_natCast,qn row eo hjl]
theorem idx_rep (m:Nat):∀ (f:Nat) (i:Int),fS 0 (List.replicate f 1++List.replicate (m + 1) 0) i = i + f
  | 0,i=>by simp [fS,List.replicate_succ]
  | f + 1,i=>by
    rw [List.replicate_succ,List.cons_append,fS,if_neg (by decide),idx_rep m f (i + 1)]
    omega
theorem take_mixd {F f:Nat} (h:f < F):(Pool.take (fe (List.replicate F (1:Int)) 0 f)).2.2 = fe (List.replicate F (1:Int)) 0 (f + 1):=by
  have hl:f < (List.replicate F (1:Int)).length:=by simpa using h
  have e:fe (List.replicate F (1:Int)) 0 f = List.replicate f 1++List.replicate ((F - f - 1) + 1) 0:=by
    unfold fe
    rw [List.take_replicate,List.length_replicate,Nat.min_eq_left (by omega)]
    congr 2; omega
  have hi:fS 0 (fe (List.replicate F (1:Int)) 0 f) 0 = f:=by rw [e,idx_rep]; omega
  unfold Pool.take
  rw [hi,if_neg (by omega)]
  have:=qn (List.replicate F (1:Int)) 0 hl
  rw [List.getElem_replicate] at this
  simpa using this
abbrev cpL (zo z:PZ) (o k:PK):List As:=plainL zo o++plainL z k
abbrev Done (z:PZ) (k:PK) (r:Ptr):As:=aN [bC r k,bC (some (z.b,0)) k]
theorem copy7 {zo z:PZ} {o k:PK} {h:Hp} (ok:PK.Ok k) (ho:zo.tp.length = k.tabs.length) (hz:z.tp.length = k.tabs.length) (es:o.s = k.s) (em:o.m = k.m) (et:o.tabs = k.tabs) (ep:o.pool = k.pool) (oko:Caps.Ok o.caps) (sb:Caps.Sub o.caps k.caps)
    (s0:aN (cpL zo z o k) h):Lp (iE (Done z k) (z.b,0) (some (zo.b,0))) () h:=by
  obtain ⟨os,om,ot,op,oc⟩:=o
  simp only at es em et ep oko sb
  subst es; subst em; subst et; subst ep
  have hs:=jk.1 ok.sz
  have hts:=(cq (j:=2) s0 rfl).1
  have hcl:=ok.cl
  have htl:=ok.tl
  refine Lp.ghost (γ:=Caps.T) (fun c _ h=>Caps.Ok c∧Caps.Sub c k.caps∧aN (cpL zo z ⟨k.s,k.m,k.tabs,k.pool,c⟩ k) h) (fun c=>Caps.miss k.caps c) ⟨oko,sb,s0⟩ ?_
  rintro c s h ⟨okc,sbc,s1⟩ R hR
  have w:=Caps.way_all (n:=k.s.fFrames) (by omega) ok.tree ok.fine okc sbc k.caps.length (Nat.le_refl _)
  unfold iE
  refine cU [0,4,4,8] (sp_plain_more zo.b z.b (pC k.s zo) (pC k.s z) zo.ts zo.pc z.pc c k.caps rfl rfl rfl (by omega) (by omega)) s1 rfl fun r h2 s2=>?_
  obtain ⟨hr,s3⟩:=bF.1 s2
  have s4:aN (cpL zo z ⟨k.s,k.m,k.tabs,k.pool,(Caps.moreE k.caps k.caps.length (false,c)).2⟩ k) h2:=bn [0,3,3,3,3,0,0,1,1,1,1,0] s3 rfl
  refine bi (fun d=>?_) (fun d=>?_)
  · exact hR _ () h2 ⟨w.ok,w.sub,s4⟩ (w.lt (by rw [← hr,d]))
  · have hf:(Caps.moreE k.caps k.caps.length (false,c)).1 = false:=by rw [← hr,d]
    have hsame:=w.same hf
    rw [hsame] at s4
    have hc:c = k.caps:=Caps.all_there (n:=k.s.fFrames) (by omega) ok.tree ok.fine okc sbc fun e s he hs=>w.no hf e s ⟨he,hs⟩
    subst hc
    have s5:=db (z:=zo) (k:=k) (l:=plainL z k) ho ok s4
    exact bn [1] (db (z:=z) (k:=k) hz ok (bn [1,1,1,1,1,1] s5 rfl)) rfl
theorem copy5 {zo z:PZ} {o k:PK} {h:Hp} {x92:Sl} (ok:PK.Ok k) (ho:zo.tp.length = k.tabs.length) (hz:z.tp.length = k.tabs.length) (hx:x92.len = k.tabs.length) (es:o.s = k.s) (em:o.m = k.m) (et:o.tabs = List.replicate k.tabs.length (List.replicate 8 eo)) (ep:o.pool = k.pool) (oko:Caps.Ok o.caps) (sb:Caps.Sub o.caps k.caps)
    (s0:aN (cpL zo z o k) h):Lp (iF (Done z k) (z.b,0) (some (zo.b,0)) x92) 0 h:=by
  obtain ⟨os,om,ot,op,oc⟩:=o
  simp only at es em et ep oko sb
  subst es; subst em; subst et; subst ep
  have hs:=jk.1 ok.sz
  have htl:=ok.tl
  have hzs:=(cq (j:=8) s0 rfl).1
  have hos:=(cq (j:=2) s0 rfl).1
  have e0:List.replicate k.tabs.length (List.replicate 8 eo) = fe k.tabs (List.replicate 8 eo) 0:=(rL _ _).symm
  rw [e0] at s0
  refine Lp.intro (fun (i:Int) h=>∃ e:Nat,i = e∧e ≤ k.tabs.length∧aN (cpL zo z ⟨k.s,k.m,fe k.tabs (List.replicate 8 eo) e,k.pool,oc⟩ k) h) (fun (i:Int) _=>k.tabs.length - i.toNat) ⟨0,rfl,Nat.zero_le _,s0⟩ ?_
  rintro i h ⟨e,rfl,he,s1⟩
  unfold iF
  refine bi (fun d=>?_) (fun d=>?_)
  · have hlt:e < k.tabs.length:=by rw [hx] at d; simpa using d
    have hw:IntKind.i64.wrap ((e:Int) + 1) = ((e + 1:Nat):Int):=by rw [bT (by omega) (by omega)]; rfl
    have htab:oW k.tabs[e]:=ok.tr _ (List.getElem_mem hlt)
    have hml:=mixd_len k.tabs (List.replicate 8 eo) he
    have heo:e < zo.tp.length:=by omega
    have hez:e < z.tp.length:=by omega
    have hmg:=mixd_get k.tabs (List.replicate 8 eo) hlt
    have r0:List.replicate 8 eo = fe k.tabs[e] eo 0:=by rw [rL,htab.1]
    refine Lp.intro (fun (i:Int) h=>∃ j:Nat,i = j∧j ≤ 8∧aN (cpL zo z ⟨k.s,k.m,(fe k.tabs (List.replicate 8 eo) e).set e (fe k.tabs[e] eo j),k.pool,oc⟩ k) h) (fun (i:Int) _=>8 - i.toNat) ⟨0,rfl,Nat.zero_le _,?_⟩ ?_
    · rw [← r0,iD hmg]; exact s1
    rintro i h ⟨j,rfl,hj,s2⟩
    unfold kO
    refine bi (fun d2=>?_) (fun d2=>?_)
    · have hlt2:j < 8:=by have:=of_decide_eq_true d2; omega
      have hjl:j < k.tabs[e].length:=by rw [htab.1]; exact hlt2
      have hw2:IntKind.i64.wrap ((j:Int) + 1) = ((j + 1:Nat):Int):=by rw [bT (by omega) (by omega)]; rfl
      have his:cE j = true:=by unfold cE; simp; omega
      have hat:Table.at_ k.tabs[e] j = k.tabs[e][j]:=by simp [Table.at_,hjl]
      refine bA z.ts s2 (i:=6) rfl rfl rfl ?_
      refine dI s2 (j:=8) rfl (by omega) (by omega) fun q hq=>?_
      refine eE (j:=8) (i:=e) (k:=0) z.tp[e] gK s2 rfl hq (by simp) (aM hez) (by simp) ?_
      have s3:=jf (aM hez) (aM hlt) (bn [9] s2 rfl)
      refine cd (ng z.tp[e] k.tabs[e] j) (i:=0) rfl s3 fun r h4 hr s4=>?_
      subst hr
      have s5:aN (cpL zo z ⟨k.s,k.m,(fe k.tabs (List.replicate 8 eo) e).set e (fe k.tabs[e] eo j),k.pool,oc⟩ k) h4:=bn [1,1,1,1,1,1,1,1,1,0] (vb (aM hez) (aM hlt) hz s4) rfl
      refine bi (fun d3=>?_) (fun d3=>?_)
      · have hne:k.tabs[e][j].fRights ≠ 0:=by
          unfold Table.get at d3
          split at d3
          · rename_i hh; rw [hat] at hh; exact hh.2
          · cases d3
        have eg:(Table.get k.tabs[e] j).1 = k.tabs[e].getD j eo:=by
          unfold Table.get; rw [hat,if_pos ⟨his,hne⟩]; simp [hjl]
        have ei:=insert_mixd htab hlt2 (by rw [List.getElem?_eq_getElem hjl]; simpa using hne)
        rw [eg]
        refine cJ (bA zo.ts s5 (i:=0) rfl rfl rfl ?_)
        refine dI s5 (j:=2) rfl (by omega) (by omega) fun q2 hq2=>?_
        refine eE (j:=2) (i:=e) (k:=0) zo.tp[e] gK s5 rfl hq2 (by simp) (aM heo) (by simp) ?_
        have ff:((fe k.tabs (List.replicate 8 eo) e).set e (fe k.tabs[e] eo j))[e]? = some (fe k.tabs[e] eo j):=by rw [List.getElem?_set,if_pos rfl,if_pos (by rw [hml]; exact hlt)]
        have s6:=jf (aM heo) ff (bn [3] s5 rfl)
        refine cd (jT zo.tp[e] _ j _) (i:=0) rfl s6 fun r h7 hr s7=>?_
        rw [ei] at s7
        have s8:=wF (aM heo) (by rw [List.length_set,hml]; exact hlt) (by rw [List.length_set,hml]; exact ho) s7
        rw [List.set_set] at s8
        rw [hw2]
        exact ⟨⟨j + 1,rfl,hlt2,bn [1,1,1] s8 rfl⟩,by simp; omega⟩
      · have hze:k.tabs[e][j] = eo:=by
          rcases htab.2 _ (List.getElem_mem hjl) with h | h
          · exact h
          · have:=may_iff.1 h.2.2.2.2
            unfold Table.get at d3
            rw [hat,if_pos ⟨his,by omega⟩] at d3; cases d3
        have hsame:fe k.tabs[e] eo j = fe k.tabs[e] eo (j + 1):=by
          rw [← qn _ _ hjl,hze,iD (mixd_get _ _ hjl)]
        rw [hsame] at s5
        rw [hw2]
        exact ⟨⟨j + 1,rfl,hlt2,s5⟩,by simp; omega⟩
    · have:j = 8:=by have:=of_decide_eq_false d2; omega
      subst this
      have er:fe k.tabs[e] eo 8 = k.tabs[e]:=by have:=uN k.tabs[e] eo; rw [htab.1] at this; exact this
      rw [er,qn _ _ hlt] at s2
      rw [hw]
      exact ⟨⟨e + 1,rfl,hlt,s2⟩,by simp; omega⟩
  · have:e = k.tabs.length:=by rw [hx] at d; simp at d; omega
    subst this
    rw [uN] at s1
    exact copy7 (o:=⟨k.s,k.m,k.tabs,k.pool,oc⟩) ok ho hz rfl rfl rfl rfl oko sb s1
theorem refs_nat {p:List Int} {f:Nat} (h:f < p.length):Pool.refs p f = p[f]:=by
  unfold Pool.refs; rw [if_neg (by omega)]; simp [h]
theorem copy3 {zo z:PZ} {o k:PK} {h:Hp} (ok:PK.Ok k) (ho:zo.tp.length = k.tabs.length) (hz:z.tp.length = k.tabs.length) (es:o.s = k.s) (em:o.m = k.m) (et:o.tabs = List.replicate k.tabs.length (List.replicate 8 eo)) (ep:o.pool = List.replicate k.pool.length 1) (oko:Caps.Ok o.caps) (sb:Caps.Sub o.caps k.caps)
    (s0:aN (cpL zo z o k) h):Lp (iG (Done z k) (z.b,0) (some (zo.b,0)) k.s.fFrames) 0 h:=by
  obtain ⟨os,om,ot,op,oc⟩:=o
  simp only at es em et ep oko sb
  subst es; subst em; subst et; subst ep
  have hs:=jk.1 ok.sz
  have hpl:=ok.pl
  rw [← rL k.pool 1] at s0
  refine Lp.intro (fun (i:Int) h=>∃ f:Nat,i = f∧f ≤ k.pool.length∧aN (cpL zo z ⟨k.s,k.m,List.replicate k.tabs.length (List.replicate 8 eo),fe k.pool 1 f,oc⟩ k) h) (fun (i:Int) _=>k.pool.length - i.toNat) ⟨0,rfl,Nat.zero_le _,s0⟩ ?_
  rintro i h ⟨f,rfl,hf,s1⟩
  unfold iG
  refine bi (fun d=>?_) (fun d=>?_)
  · have hlt:f < k.pool.length:=by have:=of_decide_eq_true d; omega
    have hw:IntKind.i64.wrap ((f:Int) + 1) = ((f + 1:Nat):Int):=by rw [bT (by omega) (by omega)]; rfl
    have hml:=mixd_len k.pool 1 hf
    have hmg:=mixd_get k.pool 1 hlt
    have hr7:=ok.pr _ (List.getElem_mem hlt)
    refine bA z.pp s1 (i:=6) rfl rfl rfl ?_
    refine cd (vr z.pp k.pool f) (i:=10) rfl s1 fun r h2 hr s2=>?_
    rw [refs_nat hlt] at hr
    subst hr
    have hw0:IntKind.i64.wrap (k.pool[f] - 1) = k.pool[f] - 1:=bT (by omega) (by omega)
    refine Lp.intro (fun (i:Int) h=>∃ j:Nat,i = j∧(j:Int) ≤ max 0 (k.pool[f] - 1)∧aN (cpL zo z ⟨k.s,k.m,List.replicate k.tabs.length (List.replicate 8 eo),(fe k.pool 1 f).set f (1 + (j:Int)),oc⟩ k) h) (fun (i:Int) _=>(8 - i).toNat) ⟨0,rfl,by omega,?_⟩ ?_
    · have:(fe k.pool 1 f).set f (1 + ((0:Nat):Int)) = fe k.pool 1 f:=by
        rw [show (1:Int) + ((0:Nat):Int) = 1 from rfl,iD hmg]
      rw [this]; exact s2
    rintro i h ⟨j,rfl,hj,s3⟩
    have ff:f < ((fe k.pool 1 f).set f (1 + (j:Int))).length:=by rw [List.length_set,hml]; exact hlt
    have hgs:((fe k.pool 1 f).set f (1 + (j:Int)))[f] = 1 + (j:Int):=by simp
    unfold kP
    rw [hw0]
    refine bi (fun d2=>?_) (fun d2=>?_)
    · have hlt2:(j:Int) < k.pool[f] - 1:=of_decide_eq_true d2
      have hw2:IntKind.i64.wrap ((j:Int) + 1) = ((j + 1:Nat):Int):=by rw [bT (by omega) (by omega)]; rfl
      refine cJ (bA zo.pp s3 (i:=0) rfl rfl rfl ?_)
      refine cd (sp_pool_Hold zo.pp _ f) (i:=4) rfl s3 fun r h4 hr s4=>?_
      have eh:(Pool.hold ((fe k.pool 1 f).set f (1 + (j:Int))) f).2 = (fe k.pool 1 f).set f (1 + ((j + 1:Nat):Int)):=by
        unfold Pool.hold
        rw [refs_nat ff,hgs,if_neg (by omega),Int.toNat_natCast,List.set_set,bT (by omega) (by omega)]
        congr 1 <;> omega
      rw [eh] at s4
      rw [hw2]
      exact ⟨⟨j + 1,rfl,by omega,s4⟩,by omega⟩
    · have hge:¬ (j:Int) < k.pool[f] - 1:=of_decide_eq_false d2
      rw [hw]
      refine bi (fun d3=>?_) (fun d3=>?_)
      · have h0:k.pool[f] = 0:=by simpa using d3
        have hj0:j = 0:=by omega
        subst hj0
        refine cJ (bA zo.pp s3 (i:=0) rfl rfl rfl ?_)
        refine cd (sp_pool_Let zo.pp _ f) (i:=4) rfl s3 fun r h4 hr s4=>?_
        have eh:(Pool.lets ((fe k.pool 1 f).set f (1 + ((0:Nat):Int))) f).2.2 = fe k.pool 1 (f + 1):=by
          unfold Pool.lets
          rw [refs_nat ff,hgs,if_neg (by omega),Int.toNat_natCast,List.set_set,bT (by omega) (by omega),← qn _ _ hlt,h0]
          rfl
        rw [eh] at s4
        exact ⟨⟨f + 1,rfl,hlt,s4⟩,by simp; omega⟩
      · have h0:k.pool[f] ≠ 0:=by simpa using d3
        have ej:1 + (j:Int) = k.pool[f]:=by omega
        rw [ej,qn _ _ hlt] at s3
        exact ⟨⟨f + 1,rfl,hlt,s3⟩,by simp; omega⟩
  · have:f = k.pool.length:=by have:=of_decide_eq_false d; omega
    subst this
    rw [uN] at s1
    have hzs:=(cq (j:=8) s1 rfl).1
    refine bA z.ts s1 (i:=6) rfl rfl rfl ?_
    exact copy5 (o:=⟨k.s,k.m,List.replicate k.tabs.length (List.replicate 8 eo),k.pool,oc⟩) ok ho hz (by omega) rfl rfl rfl rfl oko sb s1
theorem frame_nat {m:List (List Int)} {f:Nat} (h:f < m.length):Mem.frame m f = m[f]:=by
  have hh:Mem.has m f 0:=⟨by omega,by omega,by omega,by omega⟩
  unfold Mem.frame
  rw [if_pos hh]
  simp [h]
theorem copy1 {zo z:PZ} {o k:PK} {h:Hp} (ok:PK.Ok k) (ho:zo.tp.length = k.tabs.length) (hz:z.tp.length = k.tabs.length) (es:o.s = k.s) (em:o.m = List.replicate k.m.length (List.replicate 16 0)) (et:o.tabs = List.replicate k.tabs.length (List.replicate 8 eo)) (ep:o.pool = List.replicate k.pool.length 0) (oko:Caps.Ok o.caps) (sb:Caps.Sub o.caps k.caps)
    (s0:aN (cpL zo z o k) h):Lp (iH (Done z k) (z.b,0) (some (zo.b,0)) k.s.fFrames) 0 h:=by
  obtain ⟨os,om,ot,op,oc⟩:=o
  simp only at es em et ep oko sb
  subst es; subst em; subst et; subst ep
  have hs:=jk.1 ok.sz
  have hpl:=ok.pl
  have hml:=ok.ml
  have hpm:k.pool.length = k.m.length:=by omega
  rw [← rL k.m] at s0
  have ep0:List.replicate k.pool.length (0:Int) = fe (List.replicate k.pool.length (1:Int)) 0 0:=by rw [rL]; simp
  rw [ep0] at s0
  refine Lp.intro (fun (i:Int) h=>∃ f:Nat,i = f∧f ≤ k.m.length∧aN (cpL zo z ⟨k.s,fe k.m (List.replicate 16 0) f,List.replicate k.tabs.length (List.replicate 8 eo),fe (List.replicate k.pool.length (1:Int)) 0 f,oc⟩ k) h) (fun (i:Int) _=>k.m.length - i.toNat) ⟨0,rfl,Nat.zero_le _,s0⟩ ?_
  rintro i h ⟨f,rfl,hf,s1⟩
  unfold iH
  refine bi (fun d=>?_) (fun d=>?_)
  · have hlt:f < k.m.length:=by have:=of_decide_eq_true d; omega
    have hw:IntKind.i64.wrap ((f:Int) + 1) = ((f + 1:Nat):Int):=by rw [bT (by omega) (by omega)]; rfl
    have hrow:=ok.mr _ (List.getElem_mem hlt)
    have hmx:=mixd_len k.m (List.replicate 16 (0:Int)) hf
    have hmg:=mixd_get k.m (List.replicate 16 (0:Int)) hlt
    refine bA z.pm s1 (i:=6) rfl rfl rfl ?_
    refine cl_n (sp_mem_Frame z.pm k.m f) (i:=7) rfl s1 fun r33 h2 s2=>?_
    rw [frame_nat hlt] at s2
    have hrl:=(cq (j:=0) s2 rfl).1
    have r0:List.replicate 16 (0:Int) = fe k.m[f] 0 0:=by rw [rL,hrow]
    refine Lp.intro (fun (i:Int) h=>∃ j:Nat,i = j∧j ≤ 16∧aN (vU r33 k.m[f]::cpL zo z ⟨k.s,(fe k.m (List.replicate 16 0) f).set f (fe k.m[f] 0 j),List.replicate k.tabs.length (List.replicate 8 eo),fe (List.replicate k.pool.length (1:Int)) 0 f,oc⟩ k) h) (fun (i:Int) _=>16 - i.toNat) ⟨0,rfl,Nat.zero_le _,?_⟩ ?_
    · rw [← r0,iD hmg]; exact s2
    rintro i h ⟨j,rfl,hj,s3⟩
    unfold kQ
    refine bi (fun d2=>?_) (fun d2=>?_)
    · have hlt2:j < 16:=by rw [hrl,hrow] at d2; have:=of_decide_eq_true d2; omega
      have hjl:j < k.m[f].length:=by omega
      have hw2:IntKind.i64.wrap ((j:Int) + 1) = ((j + 1:Nat):Int):=by rw [bT (by omega) (by omega)]; rfl
      refine dI s3 (j:=0) rfl (by omega) (by omega) fun q hq=>?_
      refine eE (j:=0) (i:=j) (k:=0) k.m[f][j] (di _) s3 rfl hq (by simp) (aM hjl) (by simp) ?_
      refine cJ (bA zo.pm s3 (i:=1) rfl rfl rfl ?_)
      refine cd (lr zo.pm _ f j k.m[f][j]) (i:=2) rfl s3 fun r h4 hr s4=>?_
      have es:(Mem.store ((fe k.m (List.replicate 16 0) f).set f (fe k.m[f] 0 j)) f j k.m[f][j]).2 = (fe k.m (List.replicate 16 0) f).set f (fe k.m[f] 0 (j + 1)):=by
        have hh:Mem.has ((fe k.m (List.replicate 16 0) f).set f (fe k.m[f] 0 j)) f j:=⟨by omega,by simp only [List.length_set,hmx]; omega,by omega,by omega⟩
        unfold Mem.store
        rw [if_pos hh]
        unfold Mem.put
        simp only [Int.toNat_natCast]
        have hg:((fe k.m (List.replicate 16 0) f).set f (fe k.m[f] 0 j)).getD f [] = fe k.m[f] 0 j:=by rw [List.getD_eq_getElem?_getD,List.getElem?_set,if_pos rfl,if_pos (by rw [hmx]; exact hlt)]; rfl
        rw [hg,List.set_set,qn _ _ hjl]
      rw [es] at s4
      rw [hw2]
      exact ⟨⟨j + 1,rfl,hlt2,s4⟩,by simp; omega⟩
    · have:j = 16:=by rw [hrl,hrow] at d2; have:=of_decide_eq_false d2; omega
      subst this
      have er:fe k.m[f] 0 16 = k.m[f]:=by have:=uN k.m[f] (0:Int); rw [hrow] at this; exact this
      rw [er,qn _ _ hlt] at s3
      refine cJ (bA zo.pp s3 (i:=1) rfl rfl rfl ?_)
      refine cd (vq zo.pp _) (i:=5) rfl s3 fun r h4 hr s4=>?_
      rw [take_mixd (by omega)] at s4
      rw [hw]
      exact ⟨⟨f + 1,rfl,hlt,cm (l:=[vU r33 k.m[f]]) s4⟩,by simp; omega⟩
  · have:f = k.m.length:=by have:=of_decide_eq_false d; omega
    subst this
    have ea:fe (List.replicate k.pool.length (1:Int)) 0 k.m.length = List.replicate k.pool.length 1:=by
      have:=uN (List.replicate k.pool.length (1:Int)) 0
      rw [List.length_replicate,hpm] at this
      rw [hpm]; exact this
    rw [uN,ea] at s1
    refine bA k.s.fFrames s1 (i:=6) rfl rfl rfl ?_
    exact copy3 (o:=⟨k.s,k.m,List.replicate k.tabs.length (List.replicate 8 eo),List.replicate k.pool.length 1,oc⟩) ok ho hz rfl rfl rfl rfl oko sb s1
theorem three {s:lP} {z:PZ}:∀ (i:Nat) (v:Value),(aR.C s)[i]? = some v→(pC s z)[0 + 0 + i]? = some v:=by
  intro j v hv
  have:j < 3:=(List.getElem?_eq_some_iff.1 hv).1
  match j,this with
  | 0,_=>exact hv
  | 1,_=>exact hv
  | 2,_=>exact hv
theorem tY (x:Ptr) (k:PK):Sp Tryz.prog gx [pv x] dM [bC x k] (fun r=>aN [bC r k,bC x k]):=by
  intro h s0
  obtain ⟨z,rfl,h1,ok,hl,st⟩:=fH s0
  have hs:=jk.1 ok.sz
  refine sim_plain_Kernel_Copy _ ?_
  unfold qh
  refine dJ rfl (cJ ?_)
  refine ld_s (i:=0) k.s st rfl (fun i v hv=>by simpa using three i v hv) ?_
  refine li (rm k.s ok.sz) st fun r h2 s2=>?_
  obtain ⟨zo,rfl,ho,okn,hlo,s3⟩:=fH s2
  refine bA k.s.fFrames s3 (i:=6) rfl rfl rfl ?_
  have e1:k.s.fFrames.toNat = k.m.length:=by have:=ok.ml; omega
  have e2:k.s.fEnvs.toNat = k.tabs.length:=by have:=ok.tl; omega
  have e3:k.s.fFrames.toNat = k.pool.length:=by have:=ok.pl; omega
  have e4:k.s.fEnvs.toNat = k.caps.length:=by have:=ok.cl; omega
  refine copy1 (o:=PK.new k.s) ok ?_ h1 rfl (by simp only [PK.new,e1]) (by simp only [PK.new,e2]) (by simp only [PK.new,e3]) okn.tree ⟨by simp only [PK.new,List.length_replicate,e4],fun e s hh=>.inl ?_⟩ s3
  · rw [ho]; simp only [PK.new,List.length_replicate,e2]
  · obtain ⟨a,b,rfl,rfl,ha,hb⟩:=Caps.has_nat hh
    simp only [Caps.get,PK.new,e4,Int.toNat_natCast,List.getD_eq_getElem?_getD,List.getElem?_replicate,if_pos ha,Option.getD_some,if_pos hb]
end Go.Proofs.YtniiiakkdoiaiaaGreatDoor
namespace Go.Proofs.YtniiiakkdoiaiaaGreatDoor
open Go Mb
set_option linter.unusedVariables false
def nS (K:Bool→Hp→Prop):Hp→Prop:=cl Tryz.prog nk [(.agg (aR.C (⟨1,2,2⟩:aR)).toArray)] dM fun r23=>cl Tryz.prog wi [(.int .i64 2)] rG fun r24=>cl Tryz.prog nq [(.int .i64 3)] iz fun r25=>cl Tryz.prog iu [] gt fun r26=>cl Tryz.prog kS [] ie fun r27=>cl Tryz.prog uL [(.int .i64 2)] sV fun r28=>br (((((r23.isNone || r24.isNone) || r25.isNone) || r26.isNone) || r27.isNone) || r28.isNone) ( K false) ( cl Tryz.prog dD [(pv r23),(.int .i64 0),(.agg (ao.C (⟨1,1,0,0,0⟩:ao)).toArray)] bv fun r54=>cl Tryz.prog dD [(pv r23),(.int .i64 0),(.agg (ao.C (⟨6,2,1,3,0⟩:ao)).toArray)] bv fun r60=>cl Tryz.prog dD [(pv r23),(.int .i64 0),(.agg (ao.C (⟨21,2,5,77,0⟩:ao)).toArray)] bv fun r65=>cl Tryz.prog dD [(pv r23),(.int .i64 0),(.agg (ao.C (⟨20,2,5,0,0⟩:ao)).toArray)] bv fun r69=>cl Tryz.prog jq [(pv r24),(.int .i64 0),(.int .i64 1),(.int .i64 1)] bu fun r73=>cl Tryz.prog hZ [(pv r24),(.int .i64 0),(.int .i64 1),(.int .i64 1),(.int .i64 3),(.int .i64 1)] bu fun r75=>cl Tryz.prog iL [(pv r25),(.int .i64 0)] bR fun r78=>cl Tryz.prog jO [(pv r25),(.int .i64 1),(.int .u64 r78.1)] aH fun r83=>cl Tryz.prog dY [(pv r27),(.int .i64 2),(.agg (aq.C (⟨1,1,1⟩:aq)).toArray)] bu fun r86=>cl Tryz.prog n_user_Do [(pv r26),(pv r27),(pv r28),(.int .i64 0),(.agg (ao.C (⟨20,2,3,0,0⟩:ao)).toArray)] eF fun r92=>cl Tryz.prog mQ [(pv r23),(.int .i64 0),(.agg (ao.C (⟨7,5,0,0,0⟩:ao)).toArray)] ij fun r97=>cl Tryz.prog kX [] aH fun r98=>br ((((((r98 && r54.2) && (r54.1.fErr == 0)) && (r60.1.fErr == 0)) && (r69.1.fVal == 77)) && (r73 == 0)) && (r75 == 0)) ( cl Tryz.prog kI [(pv r24),(.int .i64 0),(.int .i64 1)] cY fun r127=>br (((((r127.len:Int) == 1) && (r78.1 == 1)) && r78.2) && r83) ( cl Tryz.prog jd [(pv r25),(.int .u64 1)] aH fun r143=>br (!r143) ( cl Tryz.prog iK [(pv r25),(.int .u64 1)] cD fun r148=>br ((((((r148.len:Int) == 1) && (r86 == 0)) && (r92.1.fErr == 0)) && (r92.2.fFrame == 1)) && (mu 3 3 4)) ( cl Tryz.prog kg [(.int .i64 3)] ij fun r171=>cl Tryz.prog np [r97,r171] aH fun r172=>br r172 ( cl Tryz.prog ma [(pv r23)] cD fun r176=>K ((r176.len:Int) == 1)) ( K false)) ( K false)) ( K false)) ( K false)) ( K false))
set_option maxRecDepth 20000 in
theorem ut {K:Bool→Hp→Prop} {h:Hp} (H:nS K h):Ct Tryz.prog kr #[] h fun v h'=>∃ r,v = aH r∧K r h':=aB [] Tryz.func87 rfl rfl rfl fun _=>ag<|ab<|aa (ae rfl) rfl<|ad<|ag<|ab<|aa (bk rfl (build_35_0_1_2 1 2 2)) rfl<|ai (az H en_60 rfl rfl fun r23 _ H1=>ai (az H1 en_92 rfl rfl fun r24 _ H2=>ai (az H2 en_62 rfl rfl fun r25 _ H3=>aa (ae rfl) rfl<|aa (ae rfl) rfl<|aa (ae rfl) rfl<|ad<|ag<|ab<|ai (az H3 en_63 rfl rfl fun r26 _ H4=>ai (az H4 en_93 rfl rfl fun r27 _ H5=>ai (az H5 en_90 rfl rfl fun r28 _ H6=>aa (ae rfl) rfl<|aa (ae rfl) rfl<|aa (ae rfl) rfl<|ad<|ag<|ag<|ab<|aa (ac rfl) rfl<|aa (cw Tryz.underlying93 rfl) rfl<|aa (ac rfl) rfl<|aj rfl rfl rfl (aV _) (fun g7=>wv (ac rfl)) rfl<|aj rfl rfl rfl (aV _) (fun g8=>wv (cw Tryz.underlying128 (aI rfl g8))) rfl<|aa (dA rfl rfl) rfl<|aa (ac rfl) rfl<|aj rfl rfl rfl (aV _) (fun g9=>wv (ac rfl)) rfl<|aj rfl rfl rfl (aV _) (fun g10=>wv (cw Tryz.underlying97 (aI rfl g10))) rfl<|aa (dA rfl rfl) rfl<|aa (ac rfl) rfl<|aj rfl rfl rfl (aV _) (fun g11=>wv (ac rfl)) rfl<|aj rfl rfl rfl (aV _) (fun g12=>wv (cw Tryz.underlying103 (aI rfl g12))) rfl<|aa (dA rfl rfl) rfl<|aa (ac rfl) rfl<|aj rfl rfl rfl (aV _) (fun g13=>wv (ac rfl)) rfl<|aj rfl rfl rfl (aV _) (fun g14=>wv (cw Tryz.underlying133 (aI rfl g14))) rfl<|aa (dA rfl rfl) rfl<|aa (ac rfl) rfl<|aj rfl rfl rfl (aV _) (fun g15=>wv (ac rfl)) rfl<|aj rfl rfl rfl (aV _) (fun g16=>wv (cw Tryz.underlying124 (aI rfl g16))) rfl<|aa (dA rfl rfl) rfl<|ad<|aC rfl H6 (fun k17 H18=>ag<|ab<|aa (ae rfl) rfl<|ad<|an<|av (ay rfl (aD rfl)) ⟨false,rfl,H18⟩) (fun k17 H18=>au<|ag<|ab<|aa (ac rfl) rfl<|aa (bk rfl (lO 1 1)) rfl<|ai (az H18 en_73 rfl rfl fun r54 _ H19=>aa (ac rfl) rfl<|aa (ap rfl rfl) rfl<|aa (ap rfl rfl) rfl<|ai (aX (l:=(ak.C (⟨0,0⟩:ak))) df rfl rfl fun b7=>ai (aY (k:=0) (vs:=(ak.C r54.1)) bV rfl rfl rfl rfl rfl rfl rfl<|aa (ae rfl) rfl<|ad<|ag<|ab<|aa (ac rfl) rfl<|aa (bk rfl (ju 6 2 1 3)) rfl<|ai (az H19 en_73 rfl rfl fun r60 _ H20=>aa (ac rfl) rfl<|aa (ap rfl rfl) rfl<|aa (ap rfl rfl) rfl<|ai (aX (l:=(ak.C (⟨0,0⟩:ak))) df rfl rfl fun b9=>ai (aY (k:=0) (vs:=(ak.C r60.1)) bV rfl rfl rfl rfl rfl rfl rfl<|aa (ae rfl) rfl<|ad<|ag<|ab<|aa (ac rfl) rfl<|aa (bk rfl (ju 21 2 5 77)) rfl<|ai (az H20 en_73 rfl rfl fun r65 _ H21=>ad<|ag<|ab<|aa (ac rfl) rfl<|aa (bk rfl (sS 20 2 5)) rfl<|ai (az H21 en_73 rfl rfl fun r69 _ H22=>aa (ac rfl) rfl<|aa (ap rfl rfl) rfl<|aa (ap rfl rfl) rfl<|ai (aX (l:=(ak.C (⟨0,0⟩:ak))) df rfl rfl fun b11=>ai (aY (k:=0) (vs:=(ak.C r69.1)) bV rfl rfl rfl rfl rfl rfl rfl<|aa (ae rfl) rfl<|ad<|ag<|ab<|aa (ac rfl) rfl<|ai (az H22 en_126 rfl rfl fun r73 _ H23=>aa (ac rfl) rfl<|ai (az H23 en_127 rfl rfl fun r75 _ H24=>aa (ae rfl) rfl<|aa (ae rfl) rfl<|ad<|ag<|ab<|aa (ac rfl) rfl<|ai (az H24 en_70 rfl rfl fun r78 _ H25=>aa (ac rfl) rfl<|aa (ap rfl rfl) rfl<|aa (ap rfl rfl) rfl<|aa (ae rfl) rfl<|aa (ae rfl) rfl<|ad<|ag<|ab<|aa (ac rfl) rfl<|aa (ac rfl) rfl<|ai (az H25 en_76 rfl rfl fun r83 _ H26=>aa (ae rfl) rfl<|ad<|ag<|ab<|aa (ac rfl) rfl<|aa (bk rfl (oB 1 1 1)) rfl<|ai (az H26 en_97 rfl rfl fun r86 _ H27=>aa (ae rfl) rfl<|ad<|ag<|ab<|aa (ac rfl) rfl<|aa (ac rfl) rfl<|aa (ac rfl) rfl<|aa (bk rfl (sS 20 2 3)) rfl<|ai (az H27 en_128 rfl rfl fun r92 _ H28=>aa (ac rfl) rfl<|aa (ap rfl rfl) rfl<|aa (ap rfl rfl) rfl<|ai (aX (l:=(ak.C (⟨0,0⟩:ak))) df rfl rfl fun b19=>ai (aX (l:=(ar.C (⟨0,0,0,0⟩:ar))) kA rfl rfl fun b20=>ai (aY (k:=1) (vs:=(ak.C r92.1)) bV rfl rfl rfl rfl rfl rfl rfl<|ai (aY (k:=0) (vs:=(ar.C r92.2)) fG rfl rfl rfl rfl rfl rfl rfl<|ad<|ag<|ab<|aa (ac rfl) rfl<|aa (bk rfl (lO 7 5)) rfl<|ai (az H28 en_129 rfl rfl fun r97 _ H29=>aa (ae rfl) rfl<|ad<|ag<|ab<|ai (az H29 en_130 rfl rfl fun r98 _ H30=>aa (ac rfl) rfl<|aj rfl rfl rfl (aA _) (fun g31=>wv (ac rfl)) rfl<|aa (bY rfl rfl) rfl<|aa (ac rfl) rfl<|aj rfl rfl rfl (aA _) (fun g32=>wv (am jZ rfl)) rfl<|aj rfl rfl rfl (aA _) (fun g33=>cv (bt (k:=4) nV (aI rfl g33) rfl rfl)) rfl<|aj rfl rfl rfl (aA _) (fun g34=>wv (bU (aI rfl g34) rfl)) rfl<|aa (bY rfl rfl) rfl<|aa (ac rfl) rfl<|aj rfl rfl rfl (aA _) (fun g35=>wv (am jZ rfl)) rfl<|aj rfl rfl rfl (aA _) (fun g36=>cv (bt (k:=3) nV (aI rfl g36) rfl rfl)) rfl<|aj rfl rfl rfl (aA _) (fun g37=>wv (bU (aI rfl g37) rfl)) rfl<|aa (bY rfl rfl) rfl<|aa (ac rfl) rfl<|aj rfl rfl rfl (aA _) (fun g38=>wv (am fld_47_1 rfl)) rfl<|aj rfl rfl rfl (aA _) (fun g39=>cv (bt (k:=2) cz (aI rfl g39) rfl rfl)) rfl<|aj rfl rfl rfl (aA _) (fun g40=>wv (bU (aI rfl g40) rfl)) rfl<|aa (bY rfl rfl) rfl<|aa (ac rfl) rfl<|aj rfl rfl rfl (aA _) (fun g41=>wv (ac rfl)) rfl<|aj rfl rfl rfl (aA _) (fun g42=>wv (bU (aI rfl g42) rfl)) rfl<|aa (bY rfl rfl) rfl<|aa (ac rfl) rfl<|aj rfl rfl rfl (aA _) (fun g43=>wv (ac rfl)) rfl<|aj rfl rfl rfl (aA _) (fun g44=>wv (bU (aI rfl g44) rfl)) rfl<|aa (bY rfl rfl) rfl<|aa (ac rfl) rfl<|aj rfl rfl rfl (aA _) (fun g45=>wv (ac rfl)) rfl<|bX H30 (fun k47 H48=>aK rfl rfl rfl (congrArg Value.bool k47) (az H48 en_131 (aZ (aI rfl k47) (aZ rfl (aZ rfl bW))) rfl fun r127 _ H49=>aK rfl rfl rfl (congrArg Value.bool k47) (aO (wv (dB rfl Tryz.underlying173 rfl)) rfl<|aK rfl rfl rfl (congrArg Value.bool k47) (aO (wv (bU rfl rfl)) rfl<|aa (bd rfl k47 rfl) rfl<|aa (ac rfl) rfl<|aj rfl rfl rfl (aA _) (fun g50=>wv (ac rfl)) rfl<|aj rfl rfl rfl (aA _) (fun g51=>wv (bU (aI rfl g51) rfl)) rfl<|aa (bY rfl rfl) rfl<|aa (ac rfl) rfl<|aj rfl rfl rfl (aA _) (fun g52=>wv (ac rfl)) rfl<|aa (bY rfl rfl) rfl<|aa (ac rfl) rfl<|aj rfl rfl rfl (aA _) (fun g53=>wv (ac rfl)) rfl<|aa (bY rfl rfl) rfl<|aa (ac rfl) rfl<|aj rfl rfl rfl (aA _) (fun g54=>wv (ac rfl)) rfl<|bX H49 (fun k56 H57=>aK rfl rfl rfl (congrArg Value.bool k56) (az H57 en_72 (aZ (aI rfl k56) (aZ rfl bW)) rfl fun r143 _ H58=>aK rfl rfl rfl (congrArg Value.bool k56) (aO (wv (cx rfl)) rfl<|aa (bd rfl k56 rfl) rfl<|aa (ac rfl) rfl<|aj rfl rfl rfl (aA _) (fun g59=>wv (ac rfl)) rfl<|bX H58 (fun k61 H62=>aK rfl rfl rfl (congrArg Value.bool k61) (az H62 en_106 (aZ (aI rfl k61) (aZ rfl bW)) rfl fun r148 _ H63=>aK rfl rfl rfl (congrArg Value.bool k61) (aO (wv (dB rfl Tryz.underlying41 rfl)) rfl<|aK rfl rfl rfl (congrArg Value.bool k61) (aO (wv (bU rfl rfl)) rfl<|aa (bd rfl k61 rfl) rfl<|aa (ac rfl) rfl<|aj rfl rfl rfl (aA _) (fun g64=>wv (ac rfl)) rfl<|aj rfl rfl rfl (aA _) (fun g65=>wv (bU (aI rfl g65) rfl)) rfl<|aa (bY rfl rfl) rfl<|aa (ac rfl) rfl<|aj rfl rfl rfl (aA _) (fun g66=>wv (am jZ rfl)) rfl<|aj rfl rfl rfl (aA _) (fun g67=>cv (bt (k:=1) nV (aI rfl g67) rfl rfl)) rfl<|aj rfl rfl rfl (aA _) (fun g68=>wv (bU (aI rfl g68) rfl)) rfl<|aa (bY rfl rfl) rfl<|aa (ac rfl) rfl<|aj rfl rfl rfl (aA _) (fun g69=>wv (am lg rfl)) rfl<|aj rfl rfl rfl (aA _) (fun g70=>cv (bt (k:=0) bj (aI rfl g70) rfl rfl)) rfl<|aj rfl rfl rfl (aA _) (fun g71=>wv (bU (aI rfl g71) rfl)) rfl<|aa (bY rfl rfl) rfl<|aa (ac rfl) rfl<|dc (vs:=[(.int .i64 3),(.int .u64 3),(.int .u64 4)]) rfl rfl rfl (aA _) (fun g72=>(bH (uj 3 3 4 _))) en_132 (fun g72=>rfl) rfl<|aa (bY rfl rfl) rfl<|aa (ac rfl) rfl<|aj rfl rfl rfl (aA _) (fun g73=>wv (ac rfl)) rfl<|bX H63 (fun k75 H76=>aK rfl rfl rfl (congrArg Value.bool k75) (az H76 wE rfl rfl fun r171 _ H77=>aK rfl rfl rfl (congrArg Value.bool k75) (az H77 en_133 (aZ (aI rfl k75) (aZ rfl bW)) rfl fun r172 _ H78=>aa (bd rfl k75 rfl) rfl<|aa (ac rfl) rfl<|aj rfl rfl rfl (aA _) (fun g79=>wv (ac rfl)) rfl<|bX H78 (fun k81 H82=>aK rfl rfl rfl (congrArg Value.bool k81) (az H82 en_85 (aZ (aI rfl k81) bW) rfl fun r176 _ H83=>aK rfl rfl rfl (congrArg Value.bool k81) (aO (wv (dB rfl Tryz.underlying41 rfl)) rfl<|aK rfl rfl rfl (congrArg Value.bool k81) (aO (wv (bU rfl rfl)) rfl<|aa (bd rfl k81 rfl) rfl<|aa (ae rfl) rfl<|ad<|an<|av (ay rfl (aD rfl)) ⟨((r176.len:Int) == 1),rfl,H83⟩)))) (fun k81 H82=>al rfl rfl rfl (bb k81) rfl<|al rfl rfl rfl (bb k81) rfl<|al rfl rfl rfl (bb k81) rfl<|aa (ax rfl k81 rfl) rfl<|aa (ae rfl) rfl<|ad<|an<|av (ay rfl (aD rfl)) ⟨false,rfl,H82⟩)))) (fun k75 H76=>al rfl rfl rfl (bb k75) rfl<|al rfl rfl rfl (bb k75) rfl<|aa (ax rfl k75 rfl) rfl<|aa (ac rfl) rfl<|al rfl rfl rfl rfl rfl<|al rfl rfl rfl rfl rfl<|al rfl rfl rfl rfl rfl<|al rfl rfl rfl rfl rfl<|aa (ax rfl rfl rfl) rfl<|aa (ae rfl) rfl<|ad<|an<|av (ay rfl (aD rfl)) ⟨false,rfl,H76⟩))))) (fun k61 H62=>al rfl rfl rfl (bb k61) rfl<|al rfl rfl rfl (bb k61) rfl<|al rfl rfl rfl (bb k61) rfl<|aa (ax rfl k61 rfl) rfl<|aa (ac rfl) rfl<|al rfl rfl rfl rfl rfl<|al rfl rfl rfl rfl rfl<|aa (ax rfl rfl rfl) rfl<|aa (ac rfl) rfl<|al rfl rfl rfl rfl rfl<|al rfl rfl rfl rfl rfl<|al rfl rfl rfl rfl rfl<|aa (ax rfl rfl rfl) rfl<|aa (ac rfl) rfl<|al rfl rfl rfl rfl rfl<|al rfl rfl rfl rfl rfl<|al rfl rfl rfl rfl rfl<|aa (ax rfl rfl rfl) rfl<|aa (ac rfl) rfl<|al rfl rfl rfl rfl rfl<|aa (ax rfl rfl rfl) rfl<|aa (ac rfl) rfl<|al rfl rfl rfl rfl rfl<|al rfl rfl rfl rfl rfl<|al rfl rfl rfl rfl rfl<|aa (ax rfl rfl rfl) rfl<|aa (ac rfl) rfl<|al rfl rfl rfl rfl rfl<|al rfl rfl rfl rfl rfl<|al rfl rfl rfl rfl rfl<|al rfl rfl rfl rfl rfl<|aa (ax rfl rfl rfl) rfl<|aa (ae rfl) rfl<|ad<|an<|av (ay rfl (aD rfl)) ⟨false,rfl,H62⟩)))) (fun k56 H57=>al rfl rfl rfl (bb k56) rfl<|al rfl rfl rfl (bb k56) rfl<|aa (ax rfl k56 rfl) rfl<|aa (ac rfl) rfl<|al rfl rfl rfl rfl rfl<|al rfl rfl rfl rfl rfl<|al rfl rfl rfl rfl rfl<|al rfl rfl rfl rfl rfl<|aa (ax rfl rfl rfl) rfl<|aa (ac rfl) rfl<|al rfl rfl rfl rfl rfl<|al rfl rfl rfl rfl rfl<|aa (ax rfl rfl rfl) rfl<|aa (ac rfl) rfl<|al rfl rfl rfl rfl rfl<|al rfl rfl rfl rfl rfl<|al rfl rfl rfl rfl rfl<|aa (ax rfl rfl rfl) rfl<|aa (ac rfl) rfl<|al rfl rfl rfl rfl rfl<|al rfl rfl rfl rfl rfl<|al rfl rfl rfl rfl rfl<|aa (ax rfl rfl rfl) rfl<|aa (ac rfl) rfl<|al rfl rfl rfl rfl rfl<|aa (ax rfl rfl rfl) rfl<|aa (ac rfl) rfl<|al rfl rfl rfl rfl rfl<|al rfl rfl rfl rfl rfl<|al rfl rfl rfl rfl rfl<|aa (ax rfl rfl rfl) rfl<|aa (ac rfl) rfl<|al rfl rfl rfl rfl rfl<|al rfl rfl rfl rfl rfl<|al rfl rfl rfl rfl rfl<|al rfl rfl rfl rfl rfl<|aa (ax rfl rfl rfl) rfl<|aa (ae rfl) rfl<|ad<|an<|av (ay rfl (aD rfl)) ⟨false,rfl,H57⟩))))) (fun k47 H48=>al rfl rfl rfl (bb k47) rfl<|al rfl rfl rfl (bb k47) rfl<|al rfl rfl rfl (bb k47) rfl<|aa (ax rfl k47 rfl) rfl<|aa (ac rfl) rfl<|al rfl rfl rfl rfl rfl<|al rfl rfl rfl rfl rfl<|aa (ax rfl rfl rfl) rfl<|aa (ac rfl) rfl<|al rfl rfl rfl rfl rfl<|aa (ax rfl rfl rfl) rfl<|aa (ac rfl) rfl<|al rfl rfl rfl rfl rfl<|aa (ax rfl rfl rfl) rfl<|aa (ac rfl) rfl<|al rfl rfl rfl rfl rfl<|al rfl rfl rfl rfl rfl<|al rfl rfl rfl rfl rfl<|aa (ax rfl rfl rfl) rfl<|aa (ac rfl) rfl<|al rfl rfl rfl rfl rfl<|al rfl rfl rfl rfl rfl<|al rfl rfl rfl rfl rfl<|al rfl rfl rfl rfl rfl<|aa (ax rfl rfl rfl) rfl<|aa (ac rfl) rfl<|al rfl rfl rfl rfl rfl<|al rfl rfl rfl rfl rfl<|aa (ax rfl rfl rfl) rfl<|aa (ac rfl) rfl<|al rfl rfl rfl rfl rfl<|al rfl rfl rfl rfl rfl<|al rfl rfl rfl rfl rfl<|aa (ax rfl rfl rfl) rfl<|aa (ac rfl) rfl<|al rfl rfl rfl rfl rfl<|al rfl rfl rfl rfl rfl<|al rfl rfl rfl rfl rfl<|aa (ax rfl rfl rfl) rfl<|aa (ac rfl) rfl<|al rfl rfl rfl rfl rfl<|aa (ax rfl rfl rfl) rfl<|aa (ac rfl) rfl<|al rfl rfl rfl rfl rfl<|al rfl rfl rfl rfl rfl<|al rfl rfl rfl rfl rfl<|aa (ax rfl rfl rfl) rfl<|aa (ac rfl) rfl<|al rfl rfl rfl rfl rfl<|al rfl rfl rfl rfl rfl<|al rfl rfl rfl rfl rfl<|al rfl rfl rfl rfl rfl<|aa (ax rfl rfl rfl) rfl<|aa (ae rfl) rfl<|ad<|an<|av (ay rfl (aD rfl)) ⟨false,rfl,H48⟩))))))))))))))))))))))))))))))
def nT (K:Bool→Hp→Prop):Hp→Prop:=cl Tryz.prog kr [] aH fun r1=>K r1
set_option maxRecDepth 20000 in
theorem uu {K:Bool→Hp→Prop} {h:Hp} (H:nT K h):Ct Tryz.prog ku #[] h fun v h'=>∃ r,v = aH r∧K r h':=aB [] Tryz.func50 rfl rfl rfl fun _=>ag<|ab<|aa (ae rfl) rfl<|ad<|ag<|ab<|ai (az H en_87 rfl rfl fun r1 _ H1=>aa (ae rfl) rfl<|ad<|an<|av (ay rfl (aD rfl)) ⟨r1,rfl,H1⟩)
end Go.Proofs.YtniiiakkdoiaiaaGreatDoor
namespace Go.Proofs.YtniiiakkdoiaiaaGreatDoor
open Go Mb
variable {ET:Nat} {EF:Nat × Nat}
section
variable {l:List As} {h:Hp} {x:Ptr}
theorem plain_nn {k:PK} (s:aN (bC x k::l) h):x.isNone = false:=nn_of (fun _ e=>by rw [e.1]; rfl) s
theorem tree_nn {k:Caps.T} (s:aN (cM x k::l) h):x.isNone = false:=nn_of (fun _ e=>by rw [e.1]; rfl) s
theorem epochs_nn {k:List Int × List Int} (s:aN (eU x k::l) h):x.isNone = false:=nn_of (fun _ e=>by rw [e.1]; rfl) s
end
theorem sp_plain_Err (x:Ptr) (k:PK) (e:Int) (c:ao) (h1:(PK.do_ k e c).1.2 = true) (h2:(PK.do_ k e c).1.1.fErr ≠ 0):Sp Tryz.prog mQ [pv x,.int .i64 e,.agg c.C.toArray] ij [(etB ET EF),bC x k]
    (fun r=>ex fun b:Nat × Nat=>pa_ (r = dx b.1) [trB b.1 ⟨(PK.do_ k e c).1.1.fErr,e,c,dx b.2⟩,(etB ET EF),bC x k]):=by
  intro h st
  have hn:=plain_nn (bn [1] st rfl)
  refine sim_plain_Kernel_Err _ _ _ ?_
  unfold qV
  refine dJ hn ?_
  refine cl_n (i:=1) (tY x k) rfl st fun y g1 s1=>?_
  refine cd (i:=0) (jB y k e c) rfl s1 fun r g2 hr s2=>?_
  subst hr
  refine dJ (by rw [h1]; rfl) ?_
  refine cU [] (rest:=[_,_,_]) (sp_Of _ h2) s2 rfl fun r g3 s3=>?_
  obtain ⟨b,x3⟩:=tR s3
  obtain ⟨rfl,y3⟩:=bF.1 x3
  refine cU [2,0] (rest:=[_,_]) (sp_In e c b _) y3 rfl fun r g4 s4=>?_
  obtain ⟨d,x4⟩:=tR s4
  obtain ⟨rfl,y4⟩:=bF.1 x4
  refine ⟨(d,b),bh rfl (cm (l:=[_,_]) (bn [2,2] y4 rfl))⟩
theorem sp_begun11:Sp Tryz.prog kr [] aH [(etB ET EF)] (fun r=>pa_ (r = true) [(etB ET EF)]):=by
  intro h st
  refine ut ?_
  unfold nS
  refine li (rm ⟨1,2,2⟩ (by decide)) st fun a1 h1 s1=>?_
  refine li (sp_caps_New 2 (by decide) (by decide)) s1 fun a2 h2 s2=>?_
  refine li (ro 3 (by decide) (by decide)) s2 fun a3 h3 s3=>?_
  refine li vp s3 fun a4 h4 s4=>?_
  refine li nJ s4 fun a5 h5 s5=>?_
  refine li (sp_mem_New 2 (by decide) (by decide)) s5 fun a6 h6 s6=>?_
  have n1:=plain_nn s1
  have n2:=tree_nn s2
  have n3:=epochs_nn s3
  have n4:=tlb_nn s4
  have n5:=table_nn s5
  have n6:=mem_nn s6
  rw [n1,n2,n3,n4,n5,n6]
  refine dJ rfl ?_
  refine cd (i:=5) (jB a1 _ 0 ⟨1,1,0,0,0⟩) rfl s6 fun r1 h7 e1 s7=>?_
  refine cd (i:=5) (jB a1 _ 0 ⟨6,2,1,3,0⟩) rfl s7 fun r2 h8 e2 s8=>?_
  refine cd (i:=5) (jB a1 _ 0 ⟨21,2,5,77,0⟩) rfl s8 fun r3 h9 e3 s9=>?_
  refine cd (i:=5) (jB a1 _ 0 ⟨20,2,5,0,0⟩) rfl s9 fun r4 h10 e4 s10=>?_
  refine cd (i:=4) (vv a2 _ 0 1 1) rfl s10 fun r5 h11 e5 s11=>?_
  refine cd (i:=4) (rV a2 _ 0 1 1 3 1) rfl s11 fun r6 h12 e6 s12=>?_
  refine cd (i:=3) (sp_epoch_Begin a3 _ 0 (by decide)) rfl s12 fun r7 h13 e7 s13=>?_
  subst e7
  refine cd (i:=3) (sp_epoch_Ack a3 _ 1 _) rfl s13 fun r8 h14 e8 s14=>?_
  refine cd (i:=1) (jT a5 _ 2 ⟨1,1,1⟩) rfl s14 fun r9 h15 e9 s15=>?_
  refine cU [2,1,0] (rest:=[_,_,_,_]) (sp_user_Do a4 a5 a6 _ _ _ 0 ⟨20,2,3,0,0⟩) s15 rfl fun r10 h16 x16=>?_
  obtain ⟨e10,s16⟩:=bF.1 x16
  subst e1 e2 e3 e4 e5 e6 e8 e9 e10
  refine cU [6,5] (rest:=[_,_,_,_,_]) (sp_plain_Err a1 _ 0 ⟨7,5,0,0,0⟩ (by kernel_rfl) (by decide)) s16 rfl fun r11 h17 x17=>?_
  obtain ⟨⟨b,b'⟩,z17⟩:=tR x17
  obtain ⟨rfl,s17⟩:=bF.1 z17
  refine cd (i:=1) sp_Begun2 rfl s17 fun r12 h18 e12 s18=>?_
  subst e12
  refine dN (by kernel_rfl) ?_
  refine cl_n (i:=7) (sp_caps_Below a2 _ 0 1) rfl s18 fun r13 h19 s19=>?_
  have e13:((r13.len:Int) == 1) = true:=by
    rw [(cq (j:=0) s19 rfl).1]
    kernel_rfl
  rw [e13]
  refine dN (by kernel_rfl) ?_
  refine cd (i:=7) (sp_epoch_Done a3 _ 1) rfl s19 fun r14 h20 e14 s20=>?_
  subst e14
  refine dN (by kernel_rfl) ?_
  refine cl_n (i:=7) (sp_epoch_Waits a3 _ 1) rfl s20 fun r15 h21 s21=>?_
  have e15:((r15.len:Int) == 1) = true:=by
    rw [(cq (j:=0) s21 rfl).1]
    kernel_rfl
  rw [e15]
  refine dN (by kernel_rfl) ?_
  refine cU [] (rest:=[_,_,_,_,_,_,_,_,_,_]) (sp_Of 3 (by decide)) s21 rfl fun r16 h22 x22=>?_
  obtain ⟨d,z22⟩:=tR x22
  obtain ⟨rfl,s22⟩:=bF.1 z22
  refine cU [3,0] (rest:=[_,_,_,_,_,_,_,_,_]) (sp_Is1 b d _ tr3 (by kernel_rfl) (.inr ⟨b',by kernel_rfl⟩)) s22 rfl fun r17 h23 x23=>?_
  obtain ⟨rfl,s23⟩:=bF.1 x23
  refine dN rfl ?_
  refine cl_n (i:=5) (sp_plain_Free a1 _) rfl s23 fun r18 h24 s24=>?_
  have e18:((r18.len:Int) == 1) = true:=by
    rw [(cq (j:=0) s24 rfl).1]
    kernel_rfl
  exact bh e18 (cm (l:=[_,_,_,_,_,_,_,_,_,_,_]) (bn [0,0,0,0,0,1,1,1,1,1,1] s24 rfl))
theorem sp_Begun11:Sp Tryz.prog ku [] aH [(etB ET EF)] (fun r=>pa_ (r = true) [(etB ET EF)]):=by
  intro h st
  refine uu ?_
  unfold nT
  exact cd (i:=0) sp_begun11 rfl st fun r h' hr s=>bh hr s
end Go.Proofs.YtniiiakkdoiaiaaGreatDoor
namespace Go.Proofs.YtniiiakkdoiaiaaGreatDoor
open Go Mb
theorem calls_nil:∀ (n:Nat) {l:List As} {h:Hp},aN l h→aN (all iq (List.replicate n (none:Ptr)) (List.replicate n (none:Option KC))::l) h
  | 0,_,_,s=>all_nil s
  | n + 1,l,h,s=>by
    have s1:=star_cons (A:=iq none none) (fun _=>rfl) (calls_nil n s)
    rw [List.replicate_succ,List.replicate_succ]
    obtain ⟨h1,h2,d,e,a,h3,h4,d2,e2,b,s'⟩:=s1
    subst e2
    obtain ⟨d3,d4⟩:=Dj.of_un_right d
    exact ⟨un h1 h3,h4,Dj.un_left d4 d2,by rw [e,mh],⟨h1,h3,d3,rfl,a,b⟩,s'⟩
def newI (s:lP) (b n:Nat) (pp pm pe:Ptr) (cs:Sl) (i:Int) (h:Hp):Prop:=∃ (j:Nat) (ts:Sl) (tp:List Ptr),i = j∧j ≤ n∧tp.length = j∧aN [blk b co [pv pp,.int .i64 s.fEnvs,sv ts,pv pm,pv pe,sv cs,sv (⟨none,0,0⟩:Sl),.int .i64 0],bC pp (PK.new s),vQ rS ts tp,all fB tp (List.replicate j tlb0),iX pm (List.replicate n []),eU pe ([],List.replicate n 0),vQ fh cs (List.replicate n none),all iq (List.replicate n none) (List.replicate n none),vE (⟨none,0,0⟩:Sl) []] h
theorem new_round {s:lP} {b n:Nat} {pp pm pe:Ptr} {cs:Sl} (hn8:n ≤ 8) {i:Int} {h:Hp} (H:newI s b n pp pm pe cs i h) (hi:i < n) :
    (both (ld (b,2) cS fun x31=>cl Tryz.prog iu [] gt fun r32=>hpv Tryz.prog (Instr.buildSlice bZ 1 #[(0,(pv r32))]) dO fun (v33:Sl)=>hpv Tryz.prog (Builtin.append_ #[bZ,bZ] bZ #[(sv x31),(sv v33)]) dO fun (v34:Sl)=>Mb.st (b,2) [sv v34] fun h'=>newI s b n pp pm pe cs (IntKind.i64.wrap (i + 1)) h'∧n - (IntKind.i64.wrap (i + 1)).toNat < n - i.toNat)
     (cl Tryz.prog iu [] gt fun r32=>ld (b,2) cS fun x31=>hpv Tryz.prog (Instr.buildSlice bZ 1 #[(0,(pv r32))]) dO fun (v33:Sl)=>hpv Tryz.prog (Builtin.append_ #[bZ,bZ] bZ #[(sv x31),(sv v33)]) dO fun (v34:Sl)=>Mb.st (b,2) [sv v34] fun h'=>newI s b n pp pm pe cs (IntKind.i64.wrap (i + 1)) h'∧n - (IntKind.i64.wrap (i + 1)).toNat < n - i.toNat)) h:=by
  obtain ⟨j,ts,tp,rfl,hj,htp,s6⟩:=H
  have hlt:j < n:=by omega
  have hw:IntKind.i64.wrap ((j:Int) + 1) = ((j + 1:Nat):Int):=by rw [bT (by omega) (by omega)]; rfl
  rw [hw]
  have fin:∀ (r:Ptr) (v:Sl) (h:Hp),aN [fB r tlb0,blk b co [pv pp,.int .i64 s.fEnvs,sv ts,pv pm,pv pe,sv cs,sv (⟨none,0,0⟩:Sl),.int .i64 0],bC pp (PK.new s),vQ rS v (tp++[r]),all fB tp (List.replicate j tlb0),iX pm (List.replicate n []),eU pe ([],List.replicate n 0),vQ fh cs (List.replicate n none),all iq (List.replicate n none) (List.replicate n none),vE (⟨none,0,0⟩:Sl) []] h →
      Mb.st (b,2) [sv v] (fun h'=>newI s b n pp pm pe cs ((j + 1:Nat):Int) h'∧n - ((j + 1:Nat):Int).toNat < n - (j:Int).toNat) h:=by
    intro r v h s7
    refine tX (i:=1) s7 rfl (Nat.le_of_ble_eq_true rfl) fun h8 s8=>?_
    refine ⟨⟨j + 1,v,tp++[r],rfl,hlt,by simp [htp],?_⟩,by simp; omega⟩
    have s9:=all_push (by simp [htp]) (bn [0,3] s8 rfl)
    have e:List.replicate j tlb0++[tlb0] = List.replicate (j + 1) tlb0:=List.replicate_succ'.symm
    rw [e] at s9
    exact bn [1,1,1,0] s9 rfl
  refine ⟨?_,?_⟩
  · refine bA ts s6 (i:=0) rfl rfl rfl ?_
    refine li vp s6 fun r h7 s7=>?_
    refine jv (τ:=Ptr) (i:=3) (enc:=cP) (val:=fun x=>pv x) el_SPtlb_Tlb gK cP_one (fun _=>rfl) (by omega) rfl rfl s7 rfl (by omega) (by omega) fun v h8 s8=>?_
    exact fin r v h8 s8
  · refine li vp s6 fun r h7 s7=>?_
    refine bA ts s7 (i:=1) rfl rfl rfl ?_
    refine jv (τ:=Ptr) (i:=3) (enc:=cP) (val:=fun x=>pv x) el_SPtlb_Tlb gK cP_one (fun _=>rfl) (by omega) rfl rfl s7 rfl (by omega) (by omega) fun v h8 s8=>?_
    exact fin r v h8 s8
theorem new_start {s:lP} {b n:Nat} {pp pm pe:Ptr} {cs:Sl} {h:Hp}
    (st:aN [blk b co (fD.C (⟨pp,s.fEnvs,(⟨none,0,0⟩:Sl),pm,pe,cs,(⟨none,0,0⟩:Sl),0⟩:fD)),bC pp (PK.new s),iX pm (List.replicate n []),eU pe ([],List.replicate n 0),vQ fh cs (List.replicate n none)] h):newI s b n pp pm pe cs 0 h:=by
  have s1:=fg (τ:=ck) (T:=t_api_Event) (m:=16) (enc:=aJ.C) (calls_nil n (fg (τ:=Ptr) (T:=rS) (m:=1) (enc:=cP) (all_nil (A:=fB) st)))
  exact ⟨0,⟨none,0,0⟩,[],rfl,Nat.zero_le _,rfl,bn [4,4,2,2,2,2,2,1] s1 rfl⟩
theorem new_end {s:lP} (hs:PK.sized s = true) {b n:Nat} (hn:s.fCores = n) {pp pm pe:Ptr} {cs:Sl} {h:Hp} (H:newI s b n pp pm pe cs n h):aN [dy (some (b,0)) (KK.new s)] h:=by
  obtain ⟨j,ts,tp,hj,hj2,htp,s6⟩:=H
  have:j = n:=by omega
  subst this
  have ok:=kok_new hs
  have e:KK.new s = ⟨PK.new s,List.replicate j tlb0,List.replicate j [],([],List.replicate j 0),List.replicate j none,[],0⟩:=by unfold KK.new; rw [hn]; rfl
  rw [e] at ok ⊢
  exact pO (z:=⟨b,pp,ts,tp,pm,pe,cs,List.replicate j none,⟨none,0,0⟩⟩) ⟨by simpa using htp,by simp⟩ ok s6
theorem sp_kern_New (s:lP) (hs:PK.sized s = true):Sp Tryz.prog n_kern_New [.agg s.C.toArray] wG [] (fun r=>aN [dy r (KK.new s)]):=by
  intro h st
  have hz:=jk.1 hs
  obtain ⟨n,hn⟩:=Int.eq_ofNat_of_zero_le (show 0 ≤ s.fCores by omega)
  have hn8:n ≤ 8:=by omega
  refine sim_kern_New _ ?_
  unfold sh_kern_New
  refine li (rm s hs) st fun pp h1 s1=>?_
  have hpp:pp.isNone = false:=by
    obtain ⟨_,h2,_⟩:=fH s1; rw [h2]; rfl
  refine dJ hpp ?_
  have mk:∀ {l:List As} {h:Hp} {K:Sl→Hp→Prop},aN l h→(∀ v h',aN (vQ fh v (List.replicate n none)::l) h'→K v h')→hpv Tryz.prog (Instr.makeSlice mq (.int .i64 s.fCores) (.int .i64 s.fCores)) pS K h:=by
    intro l h K s2 k
    rw [hn]
    exact nr (τ:=Ptr) (x0:=none) (enc:=cP) (n:=n) (T:=fh) (m:=1) el_SPkern_call rfl s2 (by omega) (by omega) k
  have em:s.fCores.toNat = n:=by omega
  refine ⟨?_,?_⟩
  · refine li (sp_mail_New s.fCores (by omega) (by omega)) s1 fun pm h2 s2=>?_
    refine ⟨?_,?_⟩
    · refine li (ro s.fCores (by omega) (by omega)) s2 fun pe h3 s3=>?_
      rw [em] at s3
      refine mk s3 fun cs h4 s4=>?_
      refine oF s4 fun b h5 s5=>?_
      refine Lp.intro (fun (i:Int) h=>newI s b n pp pm pe cs i h) (fun (i:Int) _=>n - i.toNat) (new_start (bn [0,4,3,2,1] s5 rfl)) ?_
      intro i h H
      unfold kern_New_l1
      refine bi (fun d=>new_round hn8 H (by have:=of_decide_eq_true d; omega)) (fun d=>?_)
      have:i = n:=by obtain ⟨j,_,_,e,hj,_⟩:=H; have:=of_decide_eq_false d; omega
      subst this
      exact new_end hs hn H
    · refine mk s2 fun cs h3 s3=>?_
      refine li (ro s.fCores (by omega) (by omega)) s3 fun pe h4 s4=>?_
      rw [em] at s4
      refine oF s4 fun b h5 s5=>?_
      refine Lp.intro (fun (i:Int) h=>newI s b n pp pm pe cs i h) (fun (i:Int) _=>n - i.toNat) (new_start (bn [0,3,2,0,0] s5 rfl)) ?_
      intro i h H
      unfold kern_New_l2
      refine bi (fun d=>new_round hn8 H (by have:=of_decide_eq_true d; omega)) (fun d=>?_)
      have:i = n:=by obtain ⟨j,_,_,e,hj,_⟩:=H; have:=of_decide_eq_false d; omega
      subst this
      exact new_end hs hn H
  · refine mk s1 fun cs h2 s2=>?_
    refine li (sp_mail_New s.fCores (by omega) (by omega)) s2 fun pm h3 s3=>?_
    refine li (ro s.fCores (by omega) (by omega)) s3 fun pe h4 s4=>?_
    rw [em] at s4
    refine oF s4 fun b h5 s5=>?_
    refine Lp.intro (fun (i:Int) h=>newI s b n pp pm pe cs i h) (fun (i:Int) _=>n - i.toNat) (new_start (bn [0,3,1,0,0] s5 rfl)) ?_
    intro i h H
    unfold kern_New_l3
    refine bi (fun d=>new_round hn8 H (by have:=of_decide_eq_true d; omega)) (fun d=>?_)
    have:i = n:=by obtain ⟨j,_,_,e,hj,_⟩:=H; have:=of_decide_eq_false d; omega
    subst this
    exact new_end hs hn H
end Go.Proofs.YtniiiakkdoiaiaaGreatDoor
namespace Go.Proofs.YtniiiakkdoiaiaaGreatDoor
open Go Mb
def CmpOk (v:Value) (A:List As) (key:Int→Int) (S:Int→Prop):Prop :=
  ∀ x y,S x→S y→SpV Tryz.prog v [.int .i64 x,.int .i64 y] dV A (fun r=>pa_ (r < 0↔key x < key y) A)
abbrev Up (key:Int→Int) (l:List Int):Prop:=l.Pairwise fun x y=>key x ≤ key y
theorem mid_get {L R:List Int} {x:Int}:(L++x::R)[L.length]? = some x:=by simp
theorem mid_get1 {L R:List Int} {x y:Int}:(L++x::y::R)[L.length + 1]? = some y:=by
  rw [List.getElem?_append_right (by omega),show L.length + 1 - L.length = 1 from by omega]; rfl
theorem mid_set {L R:List Int} {x v:Int}:(L++x::R).set L.length v = L++v::R:=by simp
theorem mid_set1 {L R:List Int} {x y v:Int}:(L++x::y::R).set (L.length + 1) v = L++x::v::R:=by
  rw [List.set_append_right _ _ (by omega),show L.length + 1 - L.length = 1 from by omega]; rfl
theorem up_insert {key:Int→Int} {a1 a2:List Int} {y:Int} (h:Up key (a1++a2)) (h1:∀ x ∈ a1,key x ≤ key y) (h2:∀ x ∈ a2,key y < key x):Up key (a1++y::a2):=by
  obtain ⟨p1,p2,p3⟩:=List.pairwise_append.1 h
  refine List.pairwise_append.2 ⟨p1,List.pairwise_cons.2 ⟨fun x hx=>Int.le_of_lt (h2 x hx),p2⟩,fun x hx z hz=>?_⟩
  rcases List.mem_cons.1 hz with rfl | hz
  · exact h1 x hx
  · exact p3 x hx z hz
theorem sp_insertion (s:Sl) (v:Value) (A:List As) (key:Int→Int) (S:Int→Prop) (hv:CmpOk v A key S) (p m q:List Int) (hS:∀ x ∈ m,S x) (hb:p.length + m.length + q.length < 2 ^ 60) :
    Sp Tryz.prog cf [sv s,.int .i64 p.length,.int .i64 (p.length + m.length:Nat),v] R_ (vI s (p++(m++q))::A) (fun _ h=>∃ m',(m'.Perm m∧Up key m')∧aN (vI s (p++(m'++q))::A) h):=by
  intro h s0
  have hl:=(cq (j:=0) s0 rfl).1
  refine ms _ _ _ _ ?_
  unfold gX
  have hw0:IntKind.i64.wrap ((p.length:Int) + 1) = ((p.length + 1:Nat):Int):=by rw [bT (by omega) (by omega)]; rfl
  rw [hw0]
  cases m with
  | nil =>
    refine Lp.intro (fun (i:Int) h=>i = ((p.length + 1:Nat):Int)∧aN (vI s (p++([]++q))::A) h) (fun _ _=>0) ⟨rfl,s0⟩ ?_
    rintro i h ⟨rfl,s1⟩
    unfold dG
    refine dJ (by simp; omega) ?_
    exact ⟨[],⟨.refl _,.nil⟩,s1⟩
  | cons x0 t0 =>
    refine Lp.intro (fun (i:Int) h=>∃ a b:List Int,i = ((p.length + a.length:Nat):Int)∧Up key a∧(a++b).Perm (x0::t0)∧aN (vI s (p++((a++b)++q))::A) h) (fun (i:Int) _=>p.length + (x0::t0).length - i.toNat) ⟨[x0],t0,rfl,List.pairwise_singleton _ _,.refl _,s0⟩ ?_
    rintro i h ⟨a,b,rfl,ha,hp,s1⟩
    have hlen:=hp.length_eq
    simp only [List.length_append] at hlen
    have hsl:=(cq (j:=0) s1 rfl).1
    unfold dG
    refine bi (fun k=>?_) (fun k=>?_)
    · have hbp:0 < b.length:=by have:=of_decide_eq_true k; omega
      obtain ⟨y,b',rfl⟩:=List.exists_cons_of_length_pos hbp
      have hS':∀ x ∈ a++y::b',S x:=fun x hx=>hS x (hp.subset hx)
      have hw1:IntKind.i64.wrap (((p.length + a.length:Nat):Int) + 1) = ((p.length + a.length + 1:Nat):Int):=by rw [bT (by omega) (by omega)]; rfl
      have out:∀ (a1 a2:List Int) (h:Hp),a1++a2 = a→(∀ x ∈ a1,key x ≤ key y)→(∀ x ∈ a2,key y < key x)→aN (vI s (p++((a1++y::(a2++b'))++q))::A) h →
          (fun (s':Int) h'=>(∃ a b:List Int,s' = ((p.length + a.length:Nat):Int)∧Up key a∧(a++b).Perm (x0::t0)∧aN (vI s (p++((a++b)++q))::A) h')∧p.length + (x0::t0).length - s'.toNat < p.length + (x0::t0).length - ((p.length + a.length:Nat):Int).toNat) (IntKind.i64.wrap (((p.length + a.length:Nat):Int) + 1)) h:=by
        intro a1 a2 h he h1 h2 s2
        subst he
        rw [hw1]
        refine ⟨⟨a1++y::a2,b',by simp; omega,up_insert ha h1 h2,?_,?_⟩,by simp at hlen ⊢; omega⟩
        · refine List.Perm.trans ?_ hp
          have:(a1++y::a2++b').Perm (a1++a2++y::b'):=by
            rw [List.append_assoc,List.append_assoc]
            refine List.Perm.append_left a1 ?_
            simpa using (List.perm_middle (a:=y) (l₁:=a2) (l₂:=b')).symm
          exact this
        · have:a1++y::a2++b' = a1++y::(a2++b'):=by simp
          rw [this]; exact s2
      refine Lp.intro (fun (j:Int) h=>∃ a1 a2:List Int,a1++a2 = a∧j = ((p.length + a1.length:Nat):Int)∧(∀ x ∈ a2,key y < key x)∧aN (vI s (p++((a1++y::(a2++b'))++q))::A) h) (fun (j:Int) _=>j.toNat) ⟨a,[],by simp,rfl,fun x hx=>(by cases hx),by simpa using s1⟩ ?_
      rintro j h ⟨a1,a2,he,rfl,h2,s2⟩
      unfold eM
      refine bi (fun k2=>?_) (fun k2=>?_)
      · have hne:a1 ≠ []:=by
          intro e; subst e; simp at k2
        obtain ⟨L0,z,rfl⟩:∃ L z,a1 = L++[z]:=⟨a1.dropLast,a1.getLast hne,(List.dropLast_concat_getLast hne).symm⟩
        have hal:a.length = L0.length + 1 + a2.length:=by rw [← he]; simp; omega
        have hdec:p++((L0++[z]++y::(a2++b'))++q) = (p++L0)++z::y::(a2++b'++q):=by simp
        rw [hdec] at s2
        have hlL:(p++L0).length = p.length + L0.length:=by simp
        have hj:((p.length + (L0++[z]).length:Nat):Int) = (((p++L0).length + 1:Nat):Int):=by simp; omega
        rw [hj]
        have hsl2:=(cq (j:=0) s2 rfl).1
        have hw2:IntKind.i64.wrap ((((p++L0).length + 1:Nat):Int) - 1) = (((p++L0).length:Nat):Int):=by rw [bT (by omega) (by omega)]; omega
        rw [hw2]
        refine dI s2 (j:=0) rfl (by omega) (by simp; omega) fun q1 hq1=>?_
        refine dI s2 (j:=0) rfl (by omega) (by simp; omega) fun q2 hq2=>?_
        refine eE (j:=0) (i:=(p++L0).length + 1) (k:=0) y (di _) s2 rfl hq1 (by rw [Int.toNat_natCast]; rfl) mid_get1 (by simp) ?_
        refine eE (j:=0) (i:=(p++L0).length) (k:=0) z (di _) s2 rfl hq2 (by rw [Int.toNat_natCast]; rfl) mid_get (by simp) ?_
        have hSy:S y:=hS' y (by simp)
        have hSz:S z:=hS' z (by rw [← he]; simp)
        refine clv_t (hv y z hSy hSz) s2 fun r h3 s3=>?_
        obtain ⟨hr,s4⟩:=bF.1 s3
        have s5:=star_rot s4
        refine bi (fun k3=>?_) (fun k3=>?_)
        · have k3':key y < key z:=hr.1 (of_decide_eq_true k3)
          refine eE (j:=0) (i:=(p++L0).length) (k:=0) z (di _) s5 rfl hq2 (by rw [Int.toNat_natCast]; rfl) mid_get (by simp) ?_
          refine eE (j:=0) (i:=(p++L0).length + 1) (k:=0) y (di _) s5 rfl hq1 (by rw [Int.toNat_natCast]; rfl) mid_get1 (by simp) ?_
          refine st_v (j:=0) (i:=(p++L0).length + 1) (k:=0) z (di _) s5 rfl hq1 (by rw [Int.toNat_natCast]; rfl) mid_get1 (by simp) rfl fun h6 s6=>?_
          rw [mid_set1] at s6
          refine st_v (j:=0) (i:=(p++L0).length) (k:=0) y (di _) s6 rfl hq2 (by rw [Int.toNat_natCast]; rfl) mid_get (by simp) rfl fun h7 s7=>?_
          refine ⟨⟨L0,z::a2,by rw [← he]; simp,by rw [hlL],fun x hx=>?_,?_⟩,by simp only [Int.toNat_natCast]; omega⟩
          · rcases List.mem_cons.1 hx with rfl | hx
            · exact k3'
            · exact h2 x hx
          · have e2:p++((L0++y::(z::a2++b'))++q) = (p++L0)++y::z::(a2++b'++q):=by simp
            rw [e2]
            have s8:aN (vI s (((p++L0)++z::z::(a2++b'++q)).set (p++L0).length y)::A) h7:=s7
            rw [mid_set] at s8
            exact s8
        · have k3':key z ≤ key y:=by
            have:¬ key y < key z:=fun hh=>by have:=hr.2 hh; simp at k3; omega
            omega
          refine out (L0++[z]) a2 h3 he (fun x hx=>?_) h2 (by rw [hdec]; exact s5)
          have hup:Up key (L0++[z]):=by
            rw [← he] at ha
            exact (List.pairwise_append.1 ha).1
          rcases List.mem_append.1 hx with hx | hx
          · have:=(List.pairwise_append.1 hup).2.2 x hx z (by simp)
            omega
          · rw [List.mem_singleton.1 hx]; exact k3'
      · have e:a1 = []:=by
          have:=of_decide_eq_false k2
          exact List.eq_nil_of_length_eq_zero (by omega)
        subst e
        exact out [] a2 h he (fun x hx=>by cases hx) h2 s2
    · have hb0:b = []:=by
        have:=of_decide_eq_false k
        exact List.eq_nil_of_length_eq_zero (by omega)
      subst hb0
      rw [List.append_nil] at hp s1
      exact ⟨a,⟨hp,ha⟩,s1⟩
theorem sp_SortStable20 (s:Sl) (v:Value) (A:List As) (key:Int→Int) (S:Int→Prop) (hv:CmpOk v A key S) (m:List Int) (hS:∀ x ∈ m,S x) (hb:m.length ≤ 20) :
    Sp Tryz.prog fF [sv s,v] R_ (vI s m::A) (fun _ h=>∃ m',(m'.Perm m∧Up key m')∧aN (vI s m'::A) h):=by
  intro h s0
  have hl:=(cq (j:=0) s0 rfl).1
  refine nF _ _ ?_
  unfold iC
  unfold cl
  refine qA _ _ _ ?_
  unfold kD
  rw [hl]
  have ins:∀ (p m q:List Int) (h:Hp) (K:Unit→Hp→Prop),(∀ x ∈ m,S x)→p.length + m.length + q.length < 2 ^ 60→aN (vI s (p++(m++q))::A) h→(∀ m' h',m'.Perm m→Up key m'→aN (vI s (p++(m'++q))::A) h'→K () h') →
      cl Tryz.prog cf [sv s,.int .i64 p.length,.int .i64 (p.length + m.length:Nat),v] R_ K h:=by
    intro p m q h K h1 h2 s1 k
    refine (sp_insertion s v A key S hv p m q h1 h2 h s1).mono ?_
    rintro u h' ⟨r,e,m',⟨p1,p2⟩,s2⟩
    exact ⟨r,e,k m' h' p1 p2 s2⟩
  have tail:∀ (m':List Int) (h:Hp),m'.length = m.length→Up key m'→m'.Perm m→aN (vI s m'::A) h→Lp (dp (s) (m.length:Int) v (fun _ h'=>∃ m',(m'.Perm m∧Up key m')∧aN (vI s m'::A) h')) 20 h:=by
    intro m' h hlm hu hp s1
    refine Lp.intro (fun (i:Int) h=>i = 20∧aN (vI s m'::A) h) (fun _ _=>0) ⟨rfl,s1⟩ ?_
    rintro i h ⟨rfl,s2⟩
    unfold dp
    refine dJ (by simp; omega) ?_
    exact ⟨m',⟨hp,hu⟩,s2⟩
  refine Lp.intro (fun (z:Int × Int) h=>(z = (0,20)∧aN (vI s m::A) h)∨(z = (20,40)∧m.length = 20∧∃ m',(m'.Perm m∧Up key m')∧aN (vI s m'::A) h)) (fun (z:Int × Int) _=>(40 - z.2).toNat) (.inl ⟨rfl,s0⟩) ?_
  rintro z h (⟨rfl,s1⟩ | ⟨rfl,h20,m',⟨hp,hu⟩,s1⟩)
  · unfold eZ
    refine bi (fun k=>?_) (fun k=>?_)
    · have h20:m.length = 20:=by have:=of_decide_eq_true k; omega
      have e:(20:Int) = ((([]:List Int).length + m.length:Nat):Int):=by simp [h20]
      show cl Tryz.prog cf [sv s,.int .i64 0,.int .i64 20,v] R_ _ h
      rw [e]
      refine ins [] m [] h _ hS (by simp; omega) (by simpa using s1) fun m' h' hp hu s2=>?_
      refine ⟨.inr ⟨?_,h20,m',⟨hp,hu⟩,by simpa using s2⟩,?_⟩
      · rw [← e]; rw [bT (by omega) (by omega)]; rfl
      · rw [← e]; rw [bT (by omega) (by omega)]; decide
    · have e:(m.length:Int) = ((([]:List Int).length + m.length:Nat):Int):=by simp
      show cl Tryz.prog cf [sv s,.int .i64 0,.int .i64 (m.length:Int),v] R_ _ h
      have:=ins [] m [] h (fun _=>Lp (dp s (m.length:Int) v (fun _ h'=>∃ m',(m'.Perm m∧Up key m')∧aN (vI s m'::A) h')) 20) hS (by simp; omega) (by simpa using s1) fun m' h' hp hu s2=>tail m' h' hp.length_eq hu hp (by simpa using s2)
      rw [← e] at this
      exact this
  · unfold eZ
    refine dJ (by rw [h20]; rfl) ?_
    have hml:m'.length = 20:=hp.length_eq.trans h20
    have e:(m.length:Int) = ((m'.length + ([]:List Int).length:Nat):Int):=by simp [h20,hml]
    have e2:(20:Int) = (m'.length:Int):=by omega
    show cl Tryz.prog cf [sv s,.int .i64 20,.int .i64 (m.length:Int),v] R_ _ h
    have:=ins m' [] [] h (fun _=>Lp (dp s (m.length:Int) v (fun _ h'=>∃ m',(m'.Perm m∧Up key m')∧aN (vI s m'::A) h')) 20) (fun x hx=>by cases hx) (by simp; omega) (by simpa using s1) fun m2 h' hp2 hu2 s2=>by
      have:m2 = []:=hp2.eq_nil
      subst this
      exact tail m' h' hp.length_eq hu hp (by simpa using s2)
    rw [← e,← e2] at this
    exact this
end Go.Proofs.YtniiiakkdoiaiaaGreatDoor
namespace Go.Proofs.YtniiiakkdoiaiaaGreatDoor
open Go Mb
set_option linter.unusedVariables false
def hist_May_l1 (a0:Sl) (a1:aR) (K:Bool→Hp→Prop) (v12:(Option Nat)) (v13:(Option Nat)) (Rec4:(Int × Int)→Hp→Prop) (s3:Int × Int):Hp→Prop:=br (decide (s3.2 < (a0.len:Int))) ( ix a0 s3.2 fun q18=>ld (q18.1,q18.2 + Int.toNat s3.2 * 16) aJ.C fun x19=>br ((!(!(fz x19 a1 s3.1))) && (decide (x19.fEffect > 0))) ( hpv Tryz.prog (Instr.lookup ji (.map v12) (.int .i64 x19.fEffect) false) aH fun (v33:Bool)=>br v33 ( K false) ( hpv Tryz.prog (Instr.lookup gM (.map v13) (.int .i64 x19.fCore) true) bS fun (v40:Int × Bool)=>br (v40.2 && ((decide (v40.1 ≤ 0)) || (decide (x19.fBegin ≤ v40.1)))) ( K false) ( hpu Tryz.prog (Instr.mapUpdate ji (.map v12) (.int .i64 x19.fEffect) (.bool true))<|hpu Tryz.prog (Instr.mapUpdate gM (.map v13) (.int .i64 x19.fCore) (.int .i64 x19.fEnd))<|Rec4 (x19.fBegin,(IntKind.i64.wrap (s3.2 + 1)))))) ( br ((!(fz x19 a1 s3.1)) || false) ( K false) ( hpv Tryz.prog (Instr.lookup gM (.map v13) (.int .i64 x19.fCore) true) bS fun (v40:Int × Bool)=>br (v40.2 && ((decide (v40.1 ≤ 0)) || (decide (x19.fBegin ≤ v40.1)))) ( K false) ( hpu Tryz.prog (Instr.mapUpdate ji (.map v12) (.int .i64 x19.fEffect) (.bool true))<|hpu Tryz.prog (Instr.mapUpdate gM (.map v13) (.int .i64 x19.fCore) (.int .i64 x19.fEnd))<|Rec4 (x19.fBegin,(IntKind.i64.wrap (s3.2 + 1))))))) ( K true)
def sh_hist_May (a0:Sl) (a1:aR) (K:Bool→Hp→Prop):Hp→Prop:=hpv Tryz.prog (Instr.makeMap ji none) R_map_int_bool fun (v12:(Option Nat))=>hpv Tryz.prog (Instr.makeMap gM none) R_map_int_int fun (v13:(Option Nat))=>Lp (hist_May_l1 a0 a1 K v12 v13) (0,0)
set_option maxRecDepth 20000 in
theorem sim_hist_May (a0:Sl) (a1:aR) {K:Bool→Hp→Prop} {h:Hp} (H:sh_hist_May a0 a1 K h):Ct Tryz.prog wh #[(sv a0),(.agg (aR.C a1).toArray)] h fun v h'=>∃ r,v = aH r∧K r h':=aB [(sv a0),(.agg (aR.C a1).toArray)] Tryz.func19 rfl rfl rfl fun _=>ag<|ab<|ai (cQ (l:=(aR.C a1)) rfl rfl rfl fun b3=>aa (ae rfl) rfl<|ad<|ag<|ab<|ai (bc H (x_makeMap0) rfl fun v12 _ H1=>ai (bc H1 (x_makeMap0) rfl fun v13 _ H2=>aa (ae rfl) rfl<|aa (ae rfl) rfl<|aa (ae rfl) rfl<|ad<|ag<|ag<|ab<|aa (ac rfl) rfl<|aa (dB rfl Tryz.underlying39 rfl) rfl<|aa (ac rfl) rfl<|ad<|aE<|bO (step:=hist_May_l1 a0 a1 K v12 v13) (fun s3=>[(3,(.pointer (some ⟨b3,0,none⟩))),(5,(.int .i64 s3.1)),(6,(.map v12)),(7,(.map v13)),(14,(sv a0)),(15,(.int .i64 (a0.len:Int))),(16,(.int .i64 s3.2))]) (fun s3=>[bx b3 35 (aR.C a1)]) H2 (.cons rfl (.cons rfl (.cons rfl (.cons rfl (.cons rfl (.cons rfl (.cons rfl (.nil _)))))))) (.cons_cons _ .slnil) (fun Rec4 s3 _ H5=>ag<|ab<|aa (cG rfl rfl) rfl<|ad<|ag<|aC rfl H5 (fun k6 H7=>au<|ag<|aE<|ag<|ab<|ct H7 fun q18 e8 h9 H10=>aa (bG rW (aU rfl (bm e8)) rfl h9) rfl<|ai (gU H10 ag_51 rfl (fun _=>rfl) rfl fun x19 H11=>ai (aX (l:=(aJ.C (⟨0,0,(⟨0,0,0,0,0⟩:ao),0,0,0,(⟨0,0⟩:ak),(⟨0,0,0,0⟩:ar)⟩:aJ))) zero_51 rfl rfl fun b9=>ai (aY (k:=0) (vs:=(aJ.C x19)) inf_51 rfl rfl rfl rfl rfl rfl rfl<|ad<|ag<|ag<|ab<|bw (bL (k:=0) ag_51 rfl rfl rfl rfl) rfl<|bw (bL (k:=1) rg rfl rfl rfl rfl) rfl<|aa (ac rfl) rfl<|ai (cN (vs:=[(.agg (aJ.C x19).toArray),(.agg (aR.C a1).toArray),(.int .i64 s3.1)]) (bH (ct_hist_one x19 a1 s3.1 _)) en_52 rfl rfl<|aa (cx rfl) rfl<|aa (ac rfl) rfl<|aj rfl rfl rfl (aV _) (fun g12=>wv (am iR rfl)) rfl<|aj rfl rfl rfl (aV _) (fun g13=>cv (bt (k:=0) bj (aI rfl g13) rfl rfl)) rfl<|aj rfl rfl rfl (aV _) (fun g14=>wv (pW (aI rfl g14) rfl)) rfl<|aj rfl rfl rfl (aV _) (fun g15=>wv (ac (aI rfl g15))) rfl<|aj rfl rfl rfl (qM _ _) (fun g16=>wv (ac rfl)) rfl<|aj rfl rfl rfl (qM _ _) (fun g17=>wv (am iR rfl)) rfl<|aj rfl rfl rfl (qM _ _) (fun g18=>cv (bt (k:=0) bj (aI rfl g18) rfl rfl)) rfl<|bX H11 (fun k20 H21=>aK rfl rfl rfl ((gv_t (b_l k20) _).trans (congrArg Value.bool (b_r k20))) (bc H21 (x_lookup (aI rfl k20) (aI rfl k20)) rfl fun v33 _ H22=>aK rfl rfl rfl (congrArg Value.bool (cn (b_l k20))) (aO (wv (bd (aI rfl (b_l k20)) (b_r k20) rfl)) rfl<|aa (ax rfl (cn (b_l k20)) rfl) rfl<|ad<|aC rfl H22 (fun k23 H24=>ag<|ab<|aa (ae rfl) rfl<|ad<|an<|av (ay rfl (aD rfl)) ⟨false,rfl,H24⟩) (fun k23 H24=>au<|ag<|ag<|ab<|aa (ac rfl) rfl<|aa (am sJ rfl) rfl<|bw (bt (k:=0) bj rfl rfl rfl) rfl<|ai (bc H24 (x_lookup rfl rfl) rfl fun v40 _ H25=>aa (ac rfl) rfl<|aa (ap rfl rfl) rfl<|aa (ap rfl rfl) rfl<|aa (ae rfl) rfl<|aa (ae rfl) rfl<|ad<|ag<|ab<|aa (ac rfl) rfl<|aa (ac rfl) rfl<|aj rfl rfl rfl (aA _) (fun g26=>wv (ac rfl)) rfl<|aj rfl rfl rfl (aA _) (fun g27=>wv (v_le (aI rfl g27) rfl)) rfl<|aj rfl rfl rfl (aA _) (fun g28=>wv (ac (aI rfl g28))) rfl<|aj rfl rfl rfl (dU _ _) (fun g29=>wv (am sI rfl)) rfl<|aj rfl rfl rfl (dU _ _) (fun g30=>cv (bt (k:=0) bj (aI rfl g30) rfl rfl)) rfl<|aj rfl rfl rfl (dU _ _) (fun g31=>wv (ac rfl)) rfl<|aj rfl rfl rfl (dU _ _) (fun g32=>wv (v_le (aI rfl g32) (aI rfl g32))) rfl<|aj rfl rfl rfl (aA _) (fun g33=>wv (dA (aI rfl g33) (aU rfl (wq g33)))) rfl<|aa (bY rfl rfl) rfl<|ad<|aC rfl H25 (fun k34 H35=>ag<|ab<|aa (ae rfl) rfl<|ad<|an<|av (ay rfl (aD rfl)) ⟨false,rfl,H35⟩) (fun k34 H35=>au<|bB (n:=13) [bx b9 51 (aJ.C x19)] cu rfl (.cons_cons _ (.cons _ .slnil))<|ah (i:=0) (fun _ _ _ _=>id) rfl (by kernel_rfl) rfl (ve (ac rfl))<|ah (i:=1) (fun _ _ _ _=>id) rfl (by kernel_rfl) rfl (ve (am iR rfl))<|ah (i:=2) (fun _ _ _ _=>id) rfl (by kernel_rfl) rfl (dl (k:=0) bj rfl rfl rfl)<|ah (i:=3) (fun _ _ _ _=>id) rfl (by kernel_rfl) rfl (ve (ac rfl))<|ah (i:=4) (fun _ _ _ _=>id) rfl (by kernel_rfl) rfl (ve (am sJ rfl))<|ah (i:=5) (fun _ _ _ _=>id) rfl (by kernel_rfl) rfl (dl (k:=0) bj rfl rfl rfl)<|ah (i:=6) (fun _ _ _ _=>id) rfl (by kernel_rfl) rfl (ve (am sI rfl))<|ah (i:=7) (fun _ _ _ _=>id) rfl (by kernel_rfl) rfl (dl (k:=0) bj rfl rfl rfl)<|ah (i:=8) (fun _ _ _ _=>id) rfl (by kernel_rfl) rfl (ve (am qr rfl))<|ah (i:=9) (fun _ _ _ _=>id) rfl (by kernel_rfl) rfl (dl (k:=0) bj rfl rfl rfl)<|ah (i:=10) (fun _ _ _ _=>id) rfl (by kernel_rfl) rfl (ve (ae rfl))<|bg (i:=11) (by kernel_rfl) (aG rfl rfl (to_hpu H35 (ta rfl rfl rfl) fun _ H36=>⟨(.cons_cons _ (.cons _ .slnil)),bg (i:=12) (by kernel_rfl) (aG rfl rfl (to_hpu H36 (ta rfl rfl rfl) fun _ H37=>⟨(.cons_cons _ (.cons _ .slnil)),be (by kernel_rfl)<|ab<|aa (bE rfl rfl) rfl<|aa (ac rfl) rfl<|ad<|cT (x19.fBegin,(IntKind.i64.wrap (s3.2 + 1))) H37 (.cons rfl (.cons rfl (.cons rfl (.cons rfl (.cons rfl (.cons rfl (.cons rfl (.nil _)))))))) (.cons _ (.cons_cons _ .slnil))⟩))⟩)))))))) (fun k20 H21=>al rfl rfl rfl ((qM _ _).trans k20) rfl<|aj rfl rfl rfl (aV _) (fun g38=>wv (ax (aI rfl g38) (b_andr k20 g38) rfl)) rfl<|aa (dA rfl rfl) rfl<|ad<|aC rfl H21 (fun k39 H40=>ag<|ab<|aa (ae rfl) rfl<|ad<|an<|av (ay rfl (aD rfl)) ⟨false,rfl,H40⟩) (fun k39 H40=>au<|ag<|ag<|ab<|aa (ac rfl) rfl<|aa (am sJ rfl) rfl<|bw (bt (k:=0) bj rfl rfl rfl) rfl<|ai (bc H40 (x_lookup rfl rfl) rfl fun v40 _ H41=>aa (ac rfl) rfl<|aa (ap rfl rfl) rfl<|aa (ap rfl rfl) rfl<|aa (ae rfl) rfl<|aa (ae rfl) rfl<|ad<|ag<|ab<|aa (ac rfl) rfl<|aa (ac rfl) rfl<|aj rfl rfl rfl (aA _) (fun g42=>wv (ac rfl)) rfl<|aj rfl rfl rfl (aA _) (fun g43=>wv (v_le (aI rfl g43) rfl)) rfl<|aj rfl rfl rfl (aA _) (fun g44=>wv (ac (aI rfl g44))) rfl<|aj rfl rfl rfl (dU _ _) (fun g45=>wv (am sI rfl)) rfl<|aj rfl rfl rfl (dU _ _) (fun g46=>cv (bt (k:=0) bj (aI rfl g46) rfl rfl)) rfl<|aj rfl rfl rfl (dU _ _) (fun g47=>wv (ac rfl)) rfl<|aj rfl rfl rfl (dU _ _) (fun g48=>wv (v_le (aI rfl g48) (aI rfl g48))) rfl<|aj rfl rfl rfl (aA _) (fun g49=>wv (dA (aI rfl g49) (aU rfl (wq g49)))) rfl<|aa (bY rfl rfl) rfl<|ad<|aC rfl H41 (fun k50 H51=>ag<|ab<|aa (ae rfl) rfl<|ad<|an<|av (ay rfl (aD rfl)) ⟨false,rfl,H51⟩) (fun k50 H51=>au<|bB (n:=13) [bx b9 51 (aJ.C x19)] cu rfl (.cons_cons _ (.cons _ .slnil))<|ah (i:=0) (fun _ _ _ _=>id) rfl (by kernel_rfl) rfl (ve (ac rfl))<|ah (i:=1) (fun _ _ _ _=>id) rfl (by kernel_rfl) rfl (ve (am iR rfl))<|ah (i:=2) (fun _ _ _ _=>id) rfl (by kernel_rfl) rfl (dl (k:=0) bj rfl rfl rfl)<|ah (i:=3) (fun _ _ _ _=>id) rfl (by kernel_rfl) rfl (ve (ac rfl))<|ah (i:=4) (fun _ _ _ _=>id) rfl (by kernel_rfl) rfl (ve (am sJ rfl))<|ah (i:=5) (fun _ _ _ _=>id) rfl (by kernel_rfl) rfl (dl (k:=0) bj rfl rfl rfl)<|ah (i:=6) (fun _ _ _ _=>id) rfl (by kernel_rfl) rfl (ve (am sI rfl))<|ah (i:=7) (fun _ _ _ _=>id) rfl (by kernel_rfl) rfl (dl (k:=0) bj rfl rfl rfl)<|ah (i:=8) (fun _ _ _ _=>id) rfl (by kernel_rfl) rfl (ve (am qr rfl))<|ah (i:=9) (fun _ _ _ _=>id) rfl (by kernel_rfl) rfl (dl (k:=0) bj rfl rfl rfl)<|ah (i:=10) (fun _ _ _ _=>id) rfl (by kernel_rfl) rfl (ve (ae rfl))<|bg (i:=11) (by kernel_rfl) (aG rfl rfl (to_hpu H51 (ta rfl rfl rfl) fun _ H52=>⟨(.cons_cons _ (.cons _ .slnil)),bg (i:=12) (by kernel_rfl) (aG rfl rfl (to_hpu H52 (ta rfl rfl rfl) fun _ H53=>⟨(.cons_cons _ (.cons _ .slnil)),be (by kernel_rfl)<|ab<|aa (bE rfl rfl) rfl<|aa (ac rfl) rfl<|ad<|cT (x19.fBegin,(IntKind.i64.wrap (s3.2 + 1))) H53 (.cons rfl (.cons rfl (.cons rfl (.cons rfl (.cons rfl (.cons rfl (.cons rfl (.nil _)))))))) (.cons _ (.cons_cons _ .slnil))⟩))⟩))))))))))) (fun k6 H7=>bz<|ag<|ab<|aa (ae rfl) rfl<|ad<|an<|av (ay rfl (aD rfl)) ⟨true,rfl,H7⟩)))))
def sF (a0:Sl) (a1:Value) (K:Sl→Hp→Prop) (Rec2:(Sl × Int)→Hp→Prop) (s1:Sl × Int):Hp→Prop:=br (decide (s1.2 < (a0.len:Int))) ( ix a0 s1.2 fun q13=>ld (q13.1,q13.2 + Int.toNat s1.2 * 16) aJ.C fun x14=>clv Tryz.prog a1 [(.agg (aJ.C x14).toArray)] aH fun r17=>br r17 ( hpv Tryz.prog (Instr.buildSlice dK 1 #[(0,(.int .i64 s1.2))]) cD fun (v20:Sl)=>hpv Tryz.prog (Builtin.append_ #[dK,dK] dK #[(sv s1.1),(sv v20)]) cD fun (v21:Sl)=>Rec2 (v21,(IntKind.i64.wrap (s1.2 + 1)))) ( Rec2 (s1.1,(IntKind.i64.wrap (s1.2 + 1))))) ( K s1.1)
def sh_hist_places (a0:Sl) (a1:Value) (K:Sl→Hp→Prop):Hp→Prop:=Lp (sF a0 a1 K) ((⟨none,0,0⟩:Sl),0)
set_option maxRecDepth 20000 in
theorem sim_hist_places (a0:Sl) (a1:Value) {K:Sl→Hp→Prop} {h:Hp} (H:sh_hist_places a0 a1 K h):Ct Tryz.prog pN #[(sv a0),a1] h fun v h'=>∃ r,v = cD r∧K r h':=aB [(sv a0),a1] Tryz.func53 rfl rfl rfl fun _=>ag<|ab<|aa (ae rfl) rfl<|ad<|ag<|ab<|aa (ae rfl) rfl<|ad<|ag<|ag<|ab<|aa (ac rfl) rfl<|aa (dB rfl Tryz.underlying39 rfl) rfl<|aa (ac rfl) rfl<|ad<|aE<|bO (step:=sF a0 a1 K) (fun s1=>[(1,a1),(5,(sv s1.1)),(8,(sv a0)),(9,(.int .i64 (a0.len:Int))),(10,(.int .i64 s1.2))]) (fun s1=>[]) H (.cons rfl (.cons rfl (.cons rfl (.cons rfl (.cons rfl (.nil _)))))) .slnil (fun Rec2 s1 _ H3=>ag<|ab<|aa (cG rfl rfl) rfl<|ad<|ag<|aC rfl H3 (fun k4 H5=>au<|ag<|aE<|ag<|ab<|aa (ac rfl) rfl<|ct H5 fun q13 e6 h7 H8=>aa (bG rW (aU rfl (bm e6)) rfl h7) rfl<|ai (gU H8 ag_51 rfl (fun _=>rfl) rfl fun x14 H9=>ai (aX (l:=(aJ.C (⟨0,0,(⟨0,0,0,0,0⟩:ao),0,0,0,(⟨0,0⟩:ak),(⟨0,0,0,0⟩:ar)⟩:aJ))) zero_51 rfl rfl fun b7=>aa (ae rfl) rfl<|ai (aY (k:=0) (vs:=(aJ.C x14)) inf_51 rfl rfl rfl rfl rfl rfl rfl<|ad<|ag<|ab<|aa (ac rfl) rfl<|bw (bL (k:=0) ag_51 rfl rfl rfl rfl) rfl<|ai (to_clv H9 rfl rfl rfl fun r17 _ H10=>ad<|aC rfl H10 (fun k11 H12=>ab<|aa (ac rfl) rfl<|aa (ac rfl) rfl<|ai (bc H12 (bD (vs:=[(.int .i64 s1.2)]) rfl) rfl fun v20 _ H13=>ai (bc H13 (dw rfl rfl) rfl fun v21 _ H14=>aa (ae rfl) rfl<|ad<|ab<|aa (bE rfl rfl) rfl<|aa (ac rfl) rfl<|ad<|cT (v21,(IntKind.i64.wrap (s1.2 + 1))) H14 (.cons rfl (.cons rfl (.cons rfl (.cons rfl (.cons rfl (.nil _)))))) (.cons _ .slnil)))) (fun k11 H12=>au<|ab<|aa (bE rfl rfl) rfl<|aa (ac rfl) rfl<|ad<|cT (s1.1,(IntKind.i64.wrap (s1.2 + 1))) H12 (.cons rfl (.cons rfl (.cons rfl (.cons rfl (.cons rfl (.nil _)))))) (.cons _ .slnil))))))) (fun k4 H5=>bz<|ag<|ab<|aa (ac rfl) rfl<|aa (ae rfl) rfl<|ad<|an<|av (ay rfl (aD rfl)) ⟨s1.1,rfl,H5⟩))
def uC (a0:Int) (a1:Int) (c0:Nat) (K:Int→Hp→Prop):Hp→Prop:=ld (c0,0) cS fun x6=>ix x6 a0 fun q8=>ld (q8.1,q8.2 + Int.toNat a0 * 16 + 8) (cI .i64) fun x10=>ld (c0,0) cS fun x11=>ix x11 a1 fun q13=>ld (q13.1,q13.2 + Int.toNat a1 * 16 + 8) (cI .i64) fun x15=>K (fJ x10 x15)
set_option maxRecDepth 20000 in
theorem sim_hist_Order_c2 (a0:Int) (a1:Int) (c0:Nat) {K:Int→Hp→Prop} {h:Hp} (H:uC a0 a1 c0 K h):Ct Tryz.prog qG #[(.int .i64 a0),(.int .i64 a1),(.pointer (some ⟨c0,0,none⟩))] h fun v h'=>∃ r,v = dV r∧K r h':=aB [(.int .i64 a0),(.int .i64 a1),(.pointer (some ⟨c0,0,none⟩))] Tryz.func58 rfl rfl rfl fun _=>ag<|ab<|aa (ae rfl) rfl<|ad<|ag<|bB (n:=12) [] cu rfl .slnil<|ah (i:=1) (fun _ _ _ _=>id) rfl (by kernel_rfl) rfl (ve (ac rfl))<|ah (i:=6) (fun _ _ _ _=>id) rfl (by kernel_rfl) rfl (ve (ac rfl))<|bN (i:=0) (fun _ _ _ _=>id) H rfl (by kernel_rfl) sc_39 rfl (fun _=>rfl) rfl fun x6 H1=>fZ H1 fun q8 e2 h3 H4=>ah (i:=2) (fun _ _ _ _=>id) rfl (by kernel_rfl) rfl (ve (bG rW (aU rfl (bm e2)) rfl h3))<|ah (i:=3) (fun _ _ _ _=>id) rfl (by kernel_rfl) rfl (ve (am iR rfl))<|bN (i:=4) (fun _ _ _ _=>id) H4 rfl (by kernel_rfl) bj rfl (fun _=>rfl) rfl fun x10 H5=>bN (i:=5) (fun _ _ _ _=>id) H5 rfl (by kernel_rfl) sc_39 rfl (fun _=>rfl) rfl fun x11 H6=>fZ H6 fun q13 e7 h8 H9=>ah (i:=7) (fun _ _ _ _=>id) rfl (by kernel_rfl) rfl (ve (bG rW (aU rfl (bm e7)) rfl h8))<|ah (i:=8) (fun _ _ _ _=>id) rfl (by kernel_rfl) rfl (ve (am iR rfl))<|bN (i:=9) (fun _ _ _ _=>id) H9 rfl (by kernel_rfl) bj rfl (fun _=>rfl) rfl fun x15 H10=>bg (i:=10) (by kernel_rfl) (aG rfl rfl (cN (vs:=[(.int .i64 x10),(.int .i64 x15)]) (bH (ct_cmp_Compare_int x10 x15 _)) en_59 rfl rfl<|⟨.slnil,ah (i:=11) (fun _ _ _ _=>id) rfl (by kernel_rfl) rfl (ve (ae rfl))<|be (by kernel_rfl)<|an<|av (ay rfl (aD rfl)) ⟨(fJ x10 x15),rfl,H10⟩⟩))
def sh_hist_Order (a0:Sl) (K:Sl→Hp→Prop):Hp→Prop:=nw eJ [sv a0] fun b1=>ld (b1,0) cS fun x4=>cl Tryz.prog pN [(sv x4),(.func (.func mJ) #[] #[])] cD fun r5=>cl Tryz.prog fF [(sv r5),(.func (.func qG) #[] #[(.pointer (some ⟨b1,0,none⟩))])] R_ fun (_:Unit)=>K r5
set_option maxRecDepth 20000 in
theorem sim_hist_Order (a0:Sl) {K:Sl→Hp→Prop} {h:Hp} (H:sh_hist_Order a0 K h):Ct Tryz.prog oq #[(sv a0)] h fun v h'=>∃ r,v = cD r∧K r h':=aB [(sv a0)] Tryz.func26 rfl rfl rfl fun _=>ag<|ab<|ai (gV rfl rfl rfl H fun b1 _ H1=>aa (ae rfl) rfl<|ad<|ag<|ab<|ai (bf H1 sc_39 rfl (fun _=>rfl) rfl fun x4 H2=>ai (az H2 en_53 rfl rfl fun r5 _ H3=>aa (ae rfl) rfl<|ad<|ag<|ab<|aa (ac rfl) rfl<|aa (v_func rfl rfl) rfl<|ai (az H3 en_57 rfl rfl fun r8 _ H4=>ad<|ag<|ab<|aa (ac rfl) rfl<|aa (ae rfl) rfl<|ad<|an<|av (ay rfl (aD rfl)) ⟨r5,rfl,H4⟩))))
def sh_hist_Over_c1 (a0:aJ) (c0:Nat) (K:Bool→Hp→Prop):Hp→Prop:=ld (c0,0) (cI .i64) fun x6=>br ((decide (a0.fBegin ≤ x6)) && (!(a0.fEffect == 0))) ( ld (c0,0) (cI .i64) fun x15=>K (decide (a0.fEffect > x15))) ( K ((decide (a0.fBegin ≤ x6)) && true))
set_option maxRecDepth 20000 in
theorem sim_hist_Over_c1 (a0:aJ) (c0:Nat) {K:Bool→Hp→Prop} {h:Hp} (H:sh_hist_Over_c1 a0 c0 K h):Ct Tryz.prog sB #[(.agg (aJ.C a0).toArray),(.pointer (some ⟨c0,0,none⟩))] h fun v h'=>∃ r,v = aH r∧K r h':=aB [(.agg (aJ.C a0).toArray),(.pointer (some ⟨c0,0,none⟩))] Tryz.func54 rfl rfl rfl fun _=>ag<|ab<|ai (cQ (l:=(aJ.C a0)) rfl rfl rfl fun b2=>aa (ae rfl) rfl<|ad<|ag<|ab<|aa (am sI rfl) rfl<|bw (bt (k:=0) bj rfl rfl rfl) rfl<|ai (bf H bj rfl (fun _=>rfl) rfl fun x6 H1=>aa (v_le rfl rfl) rfl<|aa (ac rfl) rfl<|aj rfl rfl rfl (aA _) (fun g2=>wv (am iR rfl)) rfl<|aj rfl rfl rfl (aA _) (fun g3=>cv (bt (k:=0) bj (aI rfl g3) rfl rfl)) rfl<|aj rfl rfl rfl (aA _) (fun g4=>wv (bU (aI rfl g4) rfl)) rfl<|aj rfl rfl rfl (aA _) (fun g5=>wv (ac (aI rfl g5))) rfl<|aj rfl rfl rfl (dU _ _) (fun g6=>wv (am iR rfl)) rfl<|aj rfl rfl rfl (dU _ _) (fun g7=>cv (bt (k:=0) bj (aI rfl g7) rfl rfl)) rfl<|bX H1 (fun k9 H10=>aK rfl rfl rfl ((gv_t (b_l k9) _).trans (congrArg Value.bool (cn (b_r k9)))) (bf H10 bj rfl (fun _=>rfl) rfl fun x15 H11=>aK rfl rfl rfl ((gv_t (b_l k9) _).trans (congrArg Value.bool (cn (b_r k9)))) (aO (wv (pW (aI rfl k9) rfl)) rfl<|aK rfl rfl rfl (congrArg Value.bool (b_l k9)) (aO (wv (ax (aI rfl (b_l k9)) (cn (b_r k9)) rfl)) rfl<|aa (bd rfl (b_l k9) rfl) rfl<|aa (ae rfl) rfl<|ad<|an<|av (ay rfl (aD rfl)) ⟨(decide (a0.fEffect > x15)),rfl,H11⟩)))) (fun k9 H10=>al rfl rfl rfl ((dU _ _).trans k9) rfl<|al rfl rfl rfl ((dU _ _).trans k9) rfl<|aj rfl rfl rfl (aA _) (fun g12=>wv (bd (aI rfl g12) (bP (b_andr k9 g12)) rfl)) rfl<|aa (bY rfl rfl) rfl<|aa (ae rfl) rfl<|ad<|an<|av (ay rfl (aD rfl)) ⟨((decide (a0.fBegin ≤ x6)) && true),rfl,H10⟩)))
def sh_hist_Over (a0:Sl) (a1:Int) (K:Sl→Hp→Prop):Hp→Prop:=nw kB [.int .i64 a1] fun b3=>cl Tryz.prog pN [(sv a0),(.func (.func sB) #[] #[(.pointer (some ⟨b3,0,none⟩))])] cD fun r7=>K r7
set_option maxRecDepth 20000 in
theorem sim_hist_Over (a0:Sl) (a1:Int) {K:Sl→Hp→Prop} {h:Hp} (H:sh_hist_Over a0 a1 K h):Ct Tryz.prog n_hist_Over #[(sv a0),(.int .i64 a1)] h fun v h'=>∃ r,v = cD r∧K r h':=aB [(sv a0),(.int .i64 a1)] Tryz.func21 rfl rfl rfl fun _=>ag<|ab<|ai (gV rfl rfl rfl H fun b3 _ H1=>aa (ae rfl) rfl<|ad<|ag<|ab<|aa (ac rfl) rfl<|aa (v_func rfl rfl) rfl<|ai (az H1 en_53 rfl rfl fun r7 _ H2=>aa (ae rfl) rfl<|ad<|an<|av (ay rfl (aD rfl)) ⟨r7,rfl,H2⟩))
end Go.Proofs.YtniiiakkdoiaiaaGreatDoor
