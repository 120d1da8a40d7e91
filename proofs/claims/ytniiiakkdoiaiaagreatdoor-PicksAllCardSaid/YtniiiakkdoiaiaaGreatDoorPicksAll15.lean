/- Part of the proof of: The law PicksAll returns true for every input, and leaves its arguments as they were. -/
import Derived.Test.YtniiiakkdoiaiaaGreatDoorPicksAll14
set_option linter.all false
namespace Go.Proofs.YtniiiakkdoiaiaaGreatDoor
open Go Mb
theorem sp_plain_more (zb ob:Nat) (kc oc:List Value) (ts:Sl) (pc po:Ptr) (t o:Caps.T) (h4:kc[4]? = some (sv ts)) (h6:kc[6]? = some (pv pc)) (o6:oc[6]? = some (pv po)) (hl:ts.len = o.length) (hb:o.length ≤ 4) :
    Sp Tryz.prog mo [pv (some (zb,0)),pv (some (ob,0))] aK [blk zb cG kc,cR pc t,blk ob cG oc,cR po o]
      (fun r=>pa_ (r = (Caps.moreE o o.length (false,t)).1) [blk zb cG kc,cR pc (Caps.moreE o o.length (false,t)).2,blk ob cG oc,cR po o]):=by
  intro h s0
  refine sim_plain_Kernel_more _ _ ?_
  unfold qt
  refine cO (bB ts s0 (i:=0) rfl rfl h4 ?_)
  refine Lp.intro (fun (z:Bool × Int) h=>∃ m:Nat,z.2 = m∧m ≤ o.length∧z.1 = (Caps.moreE o m (false,t)).1∧aP [blk zb cG kc,cR pc (Caps.moreE o m (false,t)).2,blk ob cG oc,cR po o] h) (fun (z:Bool × Int) _=>o.length - z.2.toNat) ⟨0,rfl,Nat.zero_le _,rfl,s0⟩ ?_
  rintro ⟨b,i⟩ h ⟨m,rfl,hm,rfl,s1⟩
  unfold kW
  refine bk (fun k=>?_) (fun k=>?_)
  · have hlt:m < o.length:=by rw [hl] at k; simpa using k
    have hw:IntKind.i64.wrap ((m:Int) + 1) = ((m + 1:Nat):Int):=by rw [cf (by omega) (by omega)]; rfl
    refine Lp.intro (fun (z:Bool × Int) h=>∃ j:Nat,z.2 = j∧j ≤ 8∧z.1 = (Caps.moreS o m j (Caps.moreE o m (false,t))).1∧aP [blk zb cG kc,cR pc (Caps.moreS o m j (Caps.moreE o m (false,t))).2,blk ob cG oc,cR po o] h) (fun (z:Bool × Int) _=>8 - z.2.toNat) ⟨0,rfl,Nat.zero_le _,rfl,s1⟩ ?_
    rintro ⟨b,i⟩ h ⟨j,rfl,hj,rfl,s2⟩
    unfold kV
    refine bk (fun k2=>?_) (fun k2=>?_)
    · have hlt2:j < 8:=by have:=of_decide_eq_true k2; simp at this; omega
      have hw2:IntKind.i64.wrap ((j:Int) + 1) = ((j + 1:Nat):Int):=by rw [cf (by omega) (by omega)]; rfl
      have es:Caps.moreS o m (j + 1) (Caps.moreE o m (false,t)) = ((Caps.moreS o m j (Caps.moreE o m (false,t))).1 || (Caps.more1 o (Caps.moreS o m j (Caps.moreE o m (false,t))).2 m j).1,(Caps.more1 o (Caps.moreS o m j (Caps.moreE o m (false,t))).2 m j).2):=rfl
      generalize hst:Caps.moreS o m j (Caps.moreE o m (false,t)) = st at *
      refine cO (bB po s2 (i:=2) rfl rfl o6 ?_)
      refine bZ (jL po o m j) (i:=3) rfl s2 fun r h3 hr s3=>?_
      subst hr
      refine bB pc s3 (i:=0) rfl rfl h6 ?_
      refine bZ (jL pc st.2 m j) (i:=1) rfl s3 fun r h4 hr s4=>?_
      subst hr
      rw [hw2]
      refine bk (fun k3=>?_) (fun k3=>?_)
      · have k3':(Caps.at_ o m j).2 = false∨(Caps.at_ st.2 m j).2 = true:=by simpa using k3
        have e1:Caps.more1 o st.2 m j = (false,st.2):=if_pos k3'
        refine ⟨⟨j + 1,rfl,hlt2,?_,?_⟩,by simp; omega⟩
        · rw [es,e1]; simp
        · rw [es,e1]; exact s4
      · have k3':¬ ((Caps.at_ o m j).2 = false∨(Caps.at_ st.2 m j).2 = true):=by simp at k3; simp [k3]
        refine bk (fun k4=>?_) (fun k4=>?_)
        · have e1:Caps.more1 o st.2 m j = ((Caps.root st.2 m j (Caps.at_ o m j).1.fFrame).1 == 0,(Caps.root st.2 m j (Caps.at_ o m j).1.fFrame).2):=by unfold Caps.more1; rw [if_neg k3',if_pos (by simpa using k4)]
          refine bB pc s4 (i:=0) rfl rfl h6 ?_
          refine bZ (we pc st.2 m j _) (i:=1) rfl s4 fun r h5 hr s5=>?_
          subst hr
          refine ⟨⟨j + 1,rfl,hlt2,?_,?_⟩,by simp; omega⟩
          · rw [es,e1]
          · rw [es,e1]; exact s5
        · have e1:Caps.more1 o st.2 m j = ((Caps.derive st.2 (Caps.at_ o m j).1.fEnv (Caps.at_ o m j).1.fSlot m j (Caps.at_ o m j).1.fRights).1 == 0,(Caps.derive st.2 (Caps.at_ o m j).1.fEnv (Caps.at_ o m j).1.fSlot m j (Caps.at_ o m j).1.fRights).2):=by unfold Caps.more1; rw [if_neg k3',if_neg (by simpa using k4)]
          refine bB pc s4 (i:=0) rfl rfl h6 ?_
          refine bZ (su pc st.2 _ _ m j _) (i:=1) rfl s4 fun r h5 hr s5=>?_
          subst hr
          refine ⟨⟨j + 1,rfl,hlt2,?_,?_⟩,by simp; omega⟩
          · rw [es,e1]
          · rw [es,e1]; exact s5
    · have:j = 8:=by have:=of_decide_eq_false k2; simp at this; omega
      subst this
      rw [hw]
      exact ⟨⟨m + 1,rfl,hlt,rfl,s2⟩,by simp; omega⟩
  · have:m = o.length:=by rw [hl] at k; simp at k; omega
    subst this
    exact bi rfl s1
section
variable {α:Type}
def ff (xs:List α) (d:α) (n:Nat):List α:=xs.take n++List.replicate (xs.length - n) d
theorem mixd_len (xs:List α) (d:α) {n:Nat} (h:n ≤ xs.length):(ff xs d n).length = xs.length:=by simp [ff]; omega
theorem sf (xs:List α) (d:α):ff xs d 0 = List.replicate xs.length d:=by simp [ff]
theorem vp (xs:List α) (d:α):ff xs d xs.length = xs:=by simp [ff]
theorem mixd_get (xs:List α) (d:α) {n:Nat} (h:n < xs.length):(ff xs d n)[n]? = some d:=by
  unfold ff
  rw [List.getElem?_append_right (by simp; omega),List.getElem?_replicate,if_pos (by simp; omega)]
theorem qF (xs:List α) (d:α) {n:Nat} (h:n < xs.length):(ff xs d n).set n xs[n] = ff xs d (n + 1):=by
  unfold ff
  rw [List.set_append_right _ _ (by simp; omega)]
  have e1:n - (xs.take n).length = 0:=by simp; omega
  have e2:xs.length - n = (xs.length - (n + 1)) + 1:=by omega
  rw [e1,e2,List.replicate_succ,List.set_cons_zero]
  have e3:xs.take (n + 1) = xs.take n++[xs[n]]:=by simp
  rw [e3,List.append_assoc]; rfl
end
theorem put_ok {p:Pte} (h:PteFine p) (h0:p.fRights ≠ 0):(gr p).2 = true:=by
  rcases h with h | ⟨h1,h2,h3,h4,h5⟩
  · rw [h] at h0; exact absurd rfl h0
  · unfold gr
    have e1:ar.eqb p ⟨0,0,0⟩ = false:=by
      unfold ar.eqb
      have:(p.fRights == 0) = false:=by simpa using h0
      simp [this]
    have e2:(((((decide (p.fFrame < 0)) || (decide (p.fFrame ≥ 16))) || (decide (p.fSlot < 0))) || (decide (p.fSlot ≥ 8))) || (!(cN p.fRights))) = false:=by
      simp [h5]; omega
    rw [e1,e2]; rfl
theorem insert_mixd {row:List Pte} (h:px row) {j:Nat} (hj:j < 8) (hr:row[j]?.map (·.fRights) ≠ some 0):Table.insert (ff row eE j) j (row.getD j eE) = (0,ff row eE (j + 1)):=by
  have hjl:j < row.length:=by rw [h.1]; exact hj
  have hg:row.getD j eE = row[j]:=by simp [hjl]
  rw [hg]
  have h0:row[j].fRights ≠ 0:=by
    intro e; apply hr; rw [List.getElem?_eq_getElem hjl]; simp [e]
  have hp:=put_ok (h.2 _ (List.getElem_mem hjl)) h0
  have hat:Table.at_ (ff row eE j) j = eE:=by
    unfold Table.at_
    rw [Int.toNat_natCast,List.getD_eq_getElem?_getD,mixd_get row eE hjl]; rfl
  have his:cK j = true:=by unfold cK; simp; omega
  unfold Table.insert
  rw [if_neg (by simp [hp,h0,his]),hat,if_neg (by simp),Int.toNat_natCast,qF row eE hjl]
theorem idx_rep (m:Nat):∀ (f:Nat) (i:Int),fV 0 (List.replicate f 1++List.replicate (m + 1) 0) i = i + f
  | 0,i=>by simp [fV,List.replicate_succ]
  | f + 1,i=>by
    rw [List.replicate_succ,List.cons_append,fV,if_neg (by decide),idx_rep m f (i + 1)]
    omega
theorem take_mixd {F f:Nat} (h:f < F):(Pool.take (ff (List.replicate F (1:Int)) 0 f)).2.2 = ff (List.replicate F (1:Int)) 0 (f + 1):=by
  have hl:f < (List.replicate F (1:Int)).length:=by simpa using h
  have e:ff (List.replicate F (1:Int)) 0 f = List.replicate f 1++List.replicate ((F - f - 1) + 1) 0:=by
    unfold ff
    rw [List.take_replicate,List.length_replicate,Nat.min_eq_left (by omega)]
    congr 2; omega
  have hi:fV 0 (ff (List.replicate F (1:Int)) 0 f) 0 = f:=by rw [e,idx_rep]; omega
  unfold Pool.take
  rw [hi,if_neg (by omega)]
  have:=qF (List.replicate F (1:Int)) 0 hl
  rw [List.getElem_replicate] at this
  simpa using this
abbrev cpL (zo z:PZ) (o k:PK):List As:=plainL zo o++plainL z k
abbrev Done (z:PZ) (k:PK) (r:Ptr):As:=aP [bE r k,bE (some (z.b,0)) k]
theorem copy7 {zo z:PZ} {o k:PK} {h:Hp} (ok:PK.Ok k) (ho:zo.tp.length = k.tabs.length) (hz:z.tp.length = k.tabs.length) (es:o.s = k.s) (em:o.m = k.m) (et:o.tabs = k.tabs) (ep:o.pool = k.pool) (oko:Caps.Ok o.caps) (sb:Caps.Sub o.caps k.caps)
    (s0:aP (cpL zo z o k) h):Lp (iI (Done z k) (z.b,0) (some (zo.b,0))) () h:=by
  obtain ⟨os,om,ot,op,oc⟩:=o
  simp only at es em et ep oko sb
  subst es; subst em; subst et; subst ep
  have hs:=jq.1 ok.sz
  have hts:=(cq (j:=2) s0 rfl).1
  have hcl:=ok.cl
  have htl:=ok.tl
  refine Lp.ghost (γ:=Caps.T) (fun c _ h=>Caps.Ok c∧Caps.Sub c k.caps∧aP (cpL zo z ⟨k.s,k.m,k.tabs,k.pool,c⟩ k) h) (fun c=>Caps.miss k.caps c) ⟨oko,sb,s0⟩ ?_
  rintro c s h ⟨okc,sbc,s1⟩ R hR
  have w:=Caps.way_all (n:=k.s.fFrames) (by omega) ok.tree ok.fine okc sbc k.caps.length (Nat.le_refl _)
  unfold iI
  refine cW [0,4,4,8] (sp_plain_more zo.b z.b (pQ k.s zo) (pQ k.s z) zo.ts zo.pc z.pc c k.caps rfl rfl rfl (by omega) (by omega)) s1 rfl fun r h2 s2=>?_
  obtain ⟨hr,s3⟩:=bF.1 s2
  have s4:aP (cpL zo z ⟨k.s,k.m,k.tabs,k.pool,(Caps.moreE k.caps k.caps.length (false,c)).2⟩ k) h2:=bp [0,3,3,3,3,0,0,1,1,1,1,0] s3 rfl
  refine bk (fun d=>?_) (fun d=>?_)
  · exact hR _ () h2 ⟨w.ok,w.sub,s4⟩ (w.lt (by rw [← hr,d]))
  · have hf:(Caps.moreE k.caps k.caps.length (false,c)).1 = false:=by rw [← hr,d]
    have hsame:=w.same hf
    rw [hsame] at s4
    have hc:c = k.caps:=Caps.all_there (n:=k.s.fFrames) (by omega) ok.tree ok.fine okc sbc fun e s he hs=>w.no hf e s ⟨he,hs⟩
    subst hc
    have s5:=dc (z:=zo) (k:=k) (l:=plainL z k) ho ok s4
    exact bp [1] (dc (z:=z) (k:=k) hz ok (bp [1,1,1,1,1,1] s5 rfl)) rfl
theorem copy5 {zo z:PZ} {o k:PK} {h:Hp} {x92:Sl} (ok:PK.Ok k) (ho:zo.tp.length = k.tabs.length) (hz:z.tp.length = k.tabs.length) (hx:x92.len = k.tabs.length) (es:o.s = k.s) (em:o.m = k.m) (et:o.tabs = List.replicate k.tabs.length (List.replicate 8 eE)) (ep:o.pool = k.pool) (oko:Caps.Ok o.caps) (sb:Caps.Sub o.caps k.caps)
    (s0:aP (cpL zo z o k) h):Lp (iJ (Done z k) (z.b,0) (some (zo.b,0)) x92) 0 h:=by
  obtain ⟨os,om,ot,op,oc⟩:=o
  simp only at es em et ep oko sb
  subst es; subst em; subst et; subst ep
  have hs:=jq.1 ok.sz
  have htl:=ok.tl
  have hzs:=(cq (j:=8) s0 rfl).1
  have hos:=(cq (j:=2) s0 rfl).1
  have e0:List.replicate k.tabs.length (List.replicate 8 eE) = ff k.tabs (List.replicate 8 eE) 0:=(sf _ _).symm
  rw [e0] at s0
  refine Lp.intro (fun (i:Int) h=>∃ e:Nat,i = e∧e ≤ k.tabs.length∧aP (cpL zo z ⟨k.s,k.m,ff k.tabs (List.replicate 8 eE) e,k.pool,oc⟩ k) h) (fun (i:Int) _=>k.tabs.length - i.toNat) ⟨0,rfl,Nat.zero_le _,s0⟩ ?_
  rintro i h ⟨e,rfl,he,s1⟩
  unfold iJ
  refine bk (fun d=>?_) (fun d=>?_)
  · have hlt:e < k.tabs.length:=by rw [hx] at d; simpa using d
    have hw:IntKind.i64.wrap ((e:Int) + 1) = ((e + 1:Nat):Int):=by rw [cf (by omega) (by omega)]; rfl
    have htab:px k.tabs[e]:=ok.tr _ (List.getElem_mem hlt)
    have hml:=mixd_len k.tabs (List.replicate 8 eE) he
    have heo:e < zo.tp.length:=by omega
    have hez:e < z.tp.length:=by omega
    have hmg:=mixd_get k.tabs (List.replicate 8 eE) hlt
    have r0:List.replicate 8 eE = ff k.tabs[e] eE 0:=by rw [sf,htab.1]
    refine Lp.intro (fun (i:Int) h=>∃ j:Nat,i = j∧j ≤ 8∧aP (cpL zo z ⟨k.s,k.m,(ff k.tabs (List.replicate 8 eE) e).set e (ff k.tabs[e] eE j),k.pool,oc⟩ k) h) (fun (i:Int) _=>8 - i.toNat) ⟨0,rfl,Nat.zero_le _,?_⟩ ?_
    · rw [← r0,iH hmg]; exact s1
    rintro i h ⟨j,rfl,hj,s2⟩
    unfold kX
    refine bk (fun d2=>?_) (fun d2=>?_)
    · have hlt2:j < 8:=by have:=of_decide_eq_true d2; omega
      have hjl:j < k.tabs[e].length:=by rw [htab.1]; exact hlt2
      have hw2:IntKind.i64.wrap ((j:Int) + 1) = ((j + 1:Nat):Int):=by rw [cf (by omega) (by omega)]; rfl
      have his:cK j = true:=by unfold cK; simp; omega
      have hat:Table.at_ k.tabs[e] j = k.tabs[e][j]:=by simp [Table.at_,hjl]
      refine bB z.ts s2 (i:=6) rfl rfl rfl ?_
      refine dE s2 (j:=8) rfl (by omega) (by omega) fun q hq=>?_
      refine eC (j:=8) (i:=e) (k:=0) z.tp[e] gP s2 rfl hq (by simp) (aO hez) (by simp) ?_
      have s3:=jl (aO hez) (aO hlt) (bp [9] s2 rfl)
      refine bZ (ny z.tp[e] k.tabs[e] j) (i:=0) rfl s3 fun r h4 hr s4=>?_
      subst hr
      have s5:aP (cpL zo z ⟨k.s,k.m,(ff k.tabs (List.replicate 8 eE) e).set e (ff k.tabs[e] eE j),k.pool,oc⟩ k) h4:=bp [1,1,1,1,1,1,1,1,1,0] (vN (aO hez) (aO hlt) hz s4) rfl
      refine bk (fun d3=>?_) (fun d3=>?_)
      · have hne:k.tabs[e][j].fRights ≠ 0:=by
          unfold Table.get at d3
          split at d3
          · rename_i hh; rw [hat] at hh; exact hh.2
          · cases d3
        have eg:(Table.get k.tabs[e] j).1 = k.tabs[e].getD j eE:=by
          unfold Table.get; rw [hat,if_pos ⟨his,hne⟩]; simp [hjl]
        have ei:=insert_mixd htab hlt2 (by rw [List.getElem?_eq_getElem hjl]; simpa using hne)
        rw [eg]
        refine cO (bB zo.ts s5 (i:=0) rfl rfl rfl ?_)
        refine dE s5 (j:=2) rfl (by omega) (by omega) fun q2 hq2=>?_
        refine eC (j:=2) (i:=e) (k:=0) zo.tp[e] gP s5 rfl hq2 (by simp) (aO heo) (by simp) ?_
        have eO:((ff k.tabs (List.replicate 8 eE) e).set e (ff k.tabs[e] eE j))[e]? = some (ff k.tabs[e] eE j):=by rw [List.getElem?_set,if_pos rfl,if_pos (by rw [hml]; exact hlt)]
        have s6:=jl (aO heo) eO (bp [3] s5 rfl)
        refine bZ (jY zo.tp[e] _ j _) (i:=0) rfl s6 fun r h7 hr s7=>?_
        rw [ei] at s7
        have s8:=xh (aO heo) (by rw [List.length_set,hml]; exact hlt) (by rw [List.length_set,hml]; exact ho) s7
        rw [List.set_set] at s8
        rw [hw2]
        exact ⟨⟨j + 1,rfl,hlt2,bp [1,1,1] s8 rfl⟩,by simp; omega⟩
      · have hze:k.tabs[e][j] = eE:=by
          rcases htab.2 _ (List.getElem_mem hjl) with h | h
          · exact h
          · have:=may_iff.1 h.2.2.2.2
            unfold Table.get at d3
            rw [hat,if_pos ⟨his,by omega⟩] at d3; cases d3
        have hsame:ff k.tabs[e] eE j = ff k.tabs[e] eE (j + 1):=by
          rw [← qF _ _ hjl,hze,iH (mixd_get _ _ hjl)]
        rw [hsame] at s5
        rw [hw2]
        exact ⟨⟨j + 1,rfl,hlt2,s5⟩,by simp; omega⟩
    · have:j = 8:=by have:=of_decide_eq_false d2; omega
      subst this
      have er:ff k.tabs[e] eE 8 = k.tabs[e]:=by have:=vp k.tabs[e] eE; rw [htab.1] at this; exact this
      rw [er,qF _ _ hlt] at s2
      rw [hw]
      exact ⟨⟨e + 1,rfl,hlt,s2⟩,by simp; omega⟩
  · have:e = k.tabs.length:=by rw [hx] at d; simp at d; omega
    subst this
    rw [vp] at s1
    exact copy7 (o:=⟨k.s,k.m,k.tabs,k.pool,oc⟩) ok ho hz rfl rfl rfl rfl oko sb s1
theorem refs_nat {p:List Int} {f:Nat} (h:f < p.length):Pool.refs p f = p[f]:=by
  unfold Pool.refs; rw [if_neg (by omega)]; simp [h]
theorem copy3 {zo z:PZ} {o k:PK} {h:Hp} (ok:PK.Ok k) (ho:zo.tp.length = k.tabs.length) (hz:z.tp.length = k.tabs.length) (es:o.s = k.s) (em:o.m = k.m) (et:o.tabs = List.replicate k.tabs.length (List.replicate 8 eE)) (ep:o.pool = List.replicate k.pool.length 1) (oko:Caps.Ok o.caps) (sb:Caps.Sub o.caps k.caps)
    (s0:aP (cpL zo z o k) h):Lp (iK (Done z k) (z.b,0) (some (zo.b,0)) k.s.fFrames) 0 h:=by
  obtain ⟨os,om,ot,op,oc⟩:=o
  simp only at es em et ep oko sb
  subst es; subst em; subst et; subst ep
  have hs:=jq.1 ok.sz
  have hpl:=ok.pl
  rw [← sf k.pool 1] at s0
  refine Lp.intro (fun (i:Int) h=>∃ f:Nat,i = f∧f ≤ k.pool.length∧aP (cpL zo z ⟨k.s,k.m,List.replicate k.tabs.length (List.replicate 8 eE),ff k.pool 1 f,oc⟩ k) h) (fun (i:Int) _=>k.pool.length - i.toNat) ⟨0,rfl,Nat.zero_le _,s0⟩ ?_
  rintro i h ⟨f,rfl,hf,s1⟩
  unfold iK
  refine bk (fun d=>?_) (fun d=>?_)
  · have hlt:f < k.pool.length:=by have:=of_decide_eq_true d; omega
    have hw:IntKind.i64.wrap ((f:Int) + 1) = ((f + 1:Nat):Int):=by rw [cf (by omega) (by omega)]; rfl
    have hml:=mixd_len k.pool 1 hf
    have hmg:=mixd_get k.pool 1 hlt
    have hr7:=ok.pr _ (List.getElem_mem hlt)
    refine bB z.pp s1 (i:=6) rfl rfl rfl ?_
    refine bZ (wb z.pp k.pool f) (i:=10) rfl s1 fun r h2 hr s2=>?_
    rw [refs_nat hlt] at hr
    subst hr
    have hw0:IntKind.i64.wrap (k.pool[f] - 1) = k.pool[f] - 1:=cf (by omega) (by omega)
    refine Lp.intro (fun (i:Int) h=>∃ j:Nat,i = j∧(j:Int) ≤ max 0 (k.pool[f] - 1)∧aP (cpL zo z ⟨k.s,k.m,List.replicate k.tabs.length (List.replicate 8 eE),(ff k.pool 1 f).set f (1 + (j:Int)),oc⟩ k) h) (fun (i:Int) _=>(8 - i).toNat) ⟨0,rfl,by omega,?_⟩ ?_
    · have:(ff k.pool 1 f).set f (1 + ((0:Nat):Int)) = ff k.pool 1 f:=by
        rw [show (1:Int) + ((0:Nat):Int) = 1 from rfl,iH hmg]
      rw [this]; exact s2
    rintro i h ⟨j,rfl,hj,s3⟩
    have eO:f < ((ff k.pool 1 f).set f (1 + (j:Int))).length:=by rw [List.length_set,hml]; exact hlt
    have hgs:((ff k.pool 1 f).set f (1 + (j:Int)))[f] = 1 + (j:Int):=by simp
    unfold kY
    rw [hw0]
    refine bk (fun d2=>?_) (fun d2=>?_)
    · have hlt2:(j:Int) < k.pool[f] - 1:=of_decide_eq_true d2
      have hw2:IntKind.i64.wrap ((j:Int) + 1) = ((j + 1:Nat):Int):=by rw [cf (by omega) (by omega)]; rfl
      refine cO (bB zo.pp s3 (i:=0) rfl rfl rfl ?_)
      refine bZ (sp_pool_Hold zo.pp _ f) (i:=4) rfl s3 fun r h4 hr s4=>?_
      have eh:(Pool.hold ((ff k.pool 1 f).set f (1 + (j:Int))) f).2 = (ff k.pool 1 f).set f (1 + ((j + 1:Nat):Int)):=by
        unfold Pool.hold
        rw [refs_nat eO,hgs,if_neg (by omega),Int.toNat_natCast,List.set_set,cf (by omega) (by omega)]
        congr 1 <;> omega
      rw [eh] at s4
      rw [hw2]
      exact ⟨⟨j + 1,rfl,by omega,s4⟩,by omega⟩
    · have hge:¬ (j:Int) < k.pool[f] - 1:=of_decide_eq_false d2
      rw [hw]
      refine bk (fun d3=>?_) (fun d3=>?_)
      · have h0:k.pool[f] = 0:=by simpa using d3
        have hj0:j = 0:=by omega
        subst hj0
        refine cO (bB zo.pp s3 (i:=0) rfl rfl rfl ?_)
        refine bZ (sp_pool_Let zo.pp _ f) (i:=4) rfl s3 fun r h4 hr s4=>?_
        have eh:(Pool.lets ((ff k.pool 1 f).set f (1 + ((0:Nat):Int))) f).2.2 = ff k.pool 1 (f + 1):=by
          unfold Pool.lets
          rw [refs_nat eO,hgs,if_neg (by omega),Int.toNat_natCast,List.set_set,cf (by omega) (by omega),← qF _ _ hlt,h0]
          rfl
        rw [eh] at s4
        exact ⟨⟨f + 1,rfl,hlt,s4⟩,by simp; omega⟩
      · have h0:k.pool[f] ≠ 0:=by simpa using d3
        have ej:1 + (j:Int) = k.pool[f]:=by omega
        rw [ej,qF _ _ hlt] at s3
        exact ⟨⟨f + 1,rfl,hlt,s3⟩,by simp; omega⟩
  · have:f = k.pool.length:=by have:=of_decide_eq_false d; omega
    subst this
    rw [vp] at s1
    have hzs:=(cq (j:=8) s1 rfl).1
    refine bB z.ts s1 (i:=6) rfl rfl rfl ?_
    exact copy5 (o:=⟨k.s,k.m,List.replicate k.tabs.length (List.replicate 8 eE),k.pool,oc⟩) ok ho hz (by omega) rfl rfl rfl rfl oko sb s1
theorem frame_nat {m:List (List Int)} {f:Nat} (h:f < m.length):Mem.frame m f = m[f]:=by
  have hh:Mem.has m f 0:=⟨by omega,by omega,by omega,by omega⟩
  unfold Mem.frame
  rw [if_pos hh]
  simp [h]
theorem copy1 {zo z:PZ} {o k:PK} {h:Hp} (ok:PK.Ok k) (ho:zo.tp.length = k.tabs.length) (hz:z.tp.length = k.tabs.length) (es:o.s = k.s) (em:o.m = List.replicate k.m.length (List.replicate 16 0)) (et:o.tabs = List.replicate k.tabs.length (List.replicate 8 eE)) (ep:o.pool = List.replicate k.pool.length 0) (oko:Caps.Ok o.caps) (sb:Caps.Sub o.caps k.caps)
    (s0:aP (cpL zo z o k) h):Lp (iL (Done z k) (z.b,0) (some (zo.b,0)) k.s.fFrames) 0 h:=by
  obtain ⟨os,om,ot,op,oc⟩:=o
  simp only at es em et ep oko sb
  subst es; subst em; subst et; subst ep
  have hs:=jq.1 ok.sz
  have hpl:=ok.pl
  have hml:=ok.ml
  have hpm:k.pool.length = k.m.length:=by omega
  rw [← sf k.m] at s0
  have ep0:List.replicate k.pool.length (0:Int) = ff (List.replicate k.pool.length (1:Int)) 0 0:=by rw [sf]; simp
  rw [ep0] at s0
  refine Lp.intro (fun (i:Int) h=>∃ f:Nat,i = f∧f ≤ k.m.length∧aP (cpL zo z ⟨k.s,ff k.m (List.replicate 16 0) f,List.replicate k.tabs.length (List.replicate 8 eE),ff (List.replicate k.pool.length (1:Int)) 0 f,oc⟩ k) h) (fun (i:Int) _=>k.m.length - i.toNat) ⟨0,rfl,Nat.zero_le _,s0⟩ ?_
  rintro i h ⟨f,rfl,hf,s1⟩
  unfold iL
  refine bk (fun d=>?_) (fun d=>?_)
  · have hlt:f < k.m.length:=by have:=of_decide_eq_true d; omega
    have hw:IntKind.i64.wrap ((f:Int) + 1) = ((f + 1:Nat):Int):=by rw [cf (by omega) (by omega)]; rfl
    have hrow:=ok.mr _ (List.getElem_mem hlt)
    have hmx:=mixd_len k.m (List.replicate 16 (0:Int)) hf
    have hmg:=mixd_get k.m (List.replicate 16 (0:Int)) hlt
    refine bB z.pm s1 (i:=6) rfl rfl rfl ?_
    refine cl_n (sp_mem_Frame z.pm k.m f) (i:=7) rfl s1 fun r33 h2 s2=>?_
    rw [frame_nat hlt] at s2
    have hrl:=(cq (j:=0) s2 rfl).1
    have r0:List.replicate 16 (0:Int) = ff k.m[f] 0 0:=by rw [sf,hrow]
    refine Lp.intro (fun (i:Int) h=>∃ j:Nat,i = j∧j ≤ 16∧aP (vU r33 k.m[f]::cpL zo z ⟨k.s,(ff k.m (List.replicate 16 0) f).set f (ff k.m[f] 0 j),List.replicate k.tabs.length (List.replicate 8 eE),ff (List.replicate k.pool.length (1:Int)) 0 f,oc⟩ k) h) (fun (i:Int) _=>16 - i.toNat) ⟨0,rfl,Nat.zero_le _,?_⟩ ?_
    · rw [← r0,iH hmg]; exact s2
    rintro i h ⟨j,rfl,hj,s3⟩
    unfold kZ
    refine bk (fun d2=>?_) (fun d2=>?_)
    · have hlt2:j < 16:=by rw [hrl,hrow] at d2; have:=of_decide_eq_true d2; omega
      have hjl:j < k.m[f].length:=by omega
      have hw2:IntKind.i64.wrap ((j:Int) + 1) = ((j + 1:Nat):Int):=by rw [cf (by omega) (by omega)]; rfl
      refine dE s3 (j:=0) rfl (by omega) (by omega) fun q hq=>?_
      refine eC (j:=0) (i:=j) (k:=0) k.m[f][j] (dk _) s3 rfl hq (by simp) (aO hjl) (by simp) ?_
      refine cO (bB zo.pm s3 (i:=1) rfl rfl rfl ?_)
      refine bZ (lG zo.pm _ f j k.m[f][j]) (i:=2) rfl s3 fun r h4 hr s4=>?_
      have es:(Mem.store ((ff k.m (List.replicate 16 0) f).set f (ff k.m[f] 0 j)) f j k.m[f][j]).2 = (ff k.m (List.replicate 16 0) f).set f (ff k.m[f] 0 (j + 1)):=by
        have hh:Mem.has ((ff k.m (List.replicate 16 0) f).set f (ff k.m[f] 0 j)) f j:=⟨by omega,by simp only [List.length_set,hmx]; omega,by omega,by omega⟩
        unfold Mem.store
        rw [if_pos hh]
        unfold Mem.put
        simp only [Int.toNat_natCast]
        have hg:((ff k.m (List.replicate 16 0) f).set f (ff k.m[f] 0 j)).getD f [] = ff k.m[f] 0 j:=by rw [List.getD_eq_getElem?_getD,List.getElem?_set,if_pos rfl,if_pos (by rw [hmx]; exact hlt)]; rfl
        rw [hg,List.set_set,qF _ _ hjl]
      rw [es] at s4
      rw [hw2]
      exact ⟨⟨j + 1,rfl,hlt2,s4⟩,by simp; omega⟩
    · have:j = 16:=by rw [hrl,hrow] at d2; have:=of_decide_eq_false d2; omega
      subst this
      have er:ff k.m[f] 0 16 = k.m[f]:=by have:=vp k.m[f] (0:Int); rw [hrow] at this; exact this
      rw [er,qF _ _ hlt] at s3
      refine cO (bB zo.pp s3 (i:=1) rfl rfl rfl ?_)
      refine bZ (wa zo.pp _) (i:=5) rfl s3 fun r h4 hr s4=>?_
      rw [take_mixd (by omega)] at s4
      rw [hw]
      exact ⟨⟨f + 1,rfl,hlt,ct (l:=[vU r33 k.m[f]]) s4⟩,by simp; omega⟩
  · have:f = k.m.length:=by have:=of_decide_eq_false d; omega
    subst this
    have ea:ff (List.replicate k.pool.length (1:Int)) 0 k.m.length = List.replicate k.pool.length 1:=by
      have:=vp (List.replicate k.pool.length (1:Int)) 0
      rw [List.length_replicate,hpm] at this
      rw [hpm]; exact this
    rw [vp,ea] at s1
    refine bB k.s.fFrames s1 (i:=6) rfl rfl rfl ?_
    exact copy3 (o:=⟨k.s,k.m,List.replicate k.tabs.length (List.replicate 8 eE),List.replicate k.pool.length 1,oc⟩) ok ho hz rfl rfl rfl rfl oko sb s1
theorem three {s:kQ} {z:PZ}:∀ (i:Nat) (v:Value),(aH.C s)[i]? = some v→(pQ s z)[0 + 0 + i]? = some v:=by
  intro j v hv
  have:j < 3:=(List.getElem?_eq_some_iff.1 hv).1
  match j,this with
  | 0,_=>exact hv
  | 1,_=>exact hv
  | 2,_=>exact hv
theorem ur (x:Ptr) (k:PK):Sp Tryz.prog gB [pv x] dP [bE x k] (fun r=>aP [bE r k,bE x k]):=by
  intro h s0
  obtain ⟨z,rfl,h1,ok,hl,st⟩:=fJ s0
  have hs:=jq.1 ok.sz
  refine sim_plain_Kernel_Copy _ ?_
  unfold qw
  refine dJ rfl (cO ?_)
  refine ld_s (i:=0) k.s st rfl (fun i v hv=>by simpa using three i v hv) ?_
  refine my (rI k.s ok.sz) st fun r h2 s2=>?_
  obtain ⟨zo,rfl,ho,okn,hlo,s3⟩:=fJ s2
  refine bB k.s.fFrames s3 (i:=6) rfl rfl rfl ?_
  have e1:k.s.fFrames.toNat = k.m.length:=by have:=ok.ml; omega
  have e2:k.s.fEnvs.toNat = k.tabs.length:=by have:=ok.tl; omega
  have e3:k.s.fFrames.toNat = k.pool.length:=by have:=ok.pl; omega
  have e4:k.s.fEnvs.toNat = k.caps.length:=by have:=ok.cl; omega
  refine copy1 (o:=PK.new k.s) ok ?_ h1 rfl (by simp only [PK.new,e1]) (by simp only [PK.new,e2]) (by simp only [PK.new,e3]) okn.tree ⟨by simp only [PK.new,List.length_replicate,e4],fun e s hh=>.inl ?_⟩ s3
  · rw [ho]; simp only [PK.new,List.length_replicate,e2]
  · obtain ⟨a,b,rfl,rfl,ha,hb⟩:=Caps.has_nat hh
    simp only [Caps.get,PK.new,e4,Int.toNat_natCast,List.getD_eq_getElem?_getD,List.getElem?_replicate,if_pos ha,Option.getD_some,if_pos hb]
end Go.Proofs.YtniiiakkdoiaiaaGreatDoor
namespace Go.Proofs.YtniiiakkdoiaiaaGreatDoor
open Go Mb
set_option linter.unusedVariables false
def oo (K:Bool→Hp→Prop):Hp→Prop:=cl Tryz.prog nE [(.agg (aH.C (⟨1,2,2⟩:aH)).toArray)] dP fun r23=>cl Tryz.prog wN [(.int .i64 2)] rZ fun r24=>cl Tryz.prog nH [(.int .i64 3)] iD fun r25=>cl Tryz.prog iz [] gx fun r26=>cl Tryz.prog lc [] il fun r27=>cl Tryz.prog vn [(.int .i64 2)] tt fun r28=>br (((((r23.isNone || r24.isNone) || r25.isNone) || r26.isNone) || r27.isNone) || r28.isNone) ( K false) ( cl Tryz.prog dD [(pv r23),(.int .i64 0),(.agg (ap.C (⟨1,1,0,0,0⟩:ap)).toArray)] bz fun r54=>cl Tryz.prog dD [(pv r23),(.int .i64 0),(.agg (ap.C (⟨6,2,1,3,0⟩:ap)).toArray)] bz fun r60=>cl Tryz.prog dD [(pv r23),(.int .i64 0),(.agg (ap.C (⟨21,2,5,77,0⟩:ap)).toArray)] bz fun r65=>cl Tryz.prog dD [(pv r23),(.int .i64 0),(.agg (ap.C (⟨20,2,5,0,0⟩:ap)).toArray)] bz fun r69=>cl Tryz.prog jw [(pv r24),(.int .i64 0),(.int .i64 1),(.int .i64 1)] bv fun r73=>cl Tryz.prog ig [(pv r24),(.int .i64 0),(.int .i64 1),(.int .i64 1),(.int .i64 3),(.int .i64 1)] bv fun r75=>cl Tryz.prog iP [(pv r25),(.int .i64 0)] bT fun r78=>cl Tryz.prog jU [(pv r25),(.int .i64 1),(.int .u64 r78.1)] aK fun r83=>cl Tryz.prog eu [(pv r27),(.int .i64 2),(.agg (ar.C (⟨1,1,1⟩:ar)).toArray)] bv fun r86=>cl Tryz.prog n_user_Do [(pv r26),(pv r27),(pv r28),(.int .i64 0),(.agg (ap.C (⟨20,2,3,0,0⟩:ap)).toArray)] eI fun r92=>cl Tryz.prog ne [(pv r23),(.int .i64 0),(.agg (ap.C (⟨7,5,0,0,0⟩:ap)).toArray)] ip fun r97=>cl Tryz.prog lj [] aK fun r98=>br ((((((r98 && r54.2) && (r54.1.fErr == 0)) && (r60.1.fErr == 0)) && (r69.1.fVal == 77)) && (r73 == 0)) && (r75 == 0)) ( cl Tryz.prog kO [(pv r24),(.int .i64 0),(.int .i64 1)] cZ fun r127=>br (((((r127.len:Int) == 1) && (r78.1 == 1)) && r78.2) && r83) ( cl Tryz.prog jj [(pv r25),(.int .u64 1)] aK fun r143=>br (!r143) ( cl Tryz.prog iO [(pv r25),(.int .u64 1)] cJ fun r148=>br ((((((r148.len:Int) == 1) && (r86 == 0)) && (r92.1.fErr == 0)) && (r92.2.fFrame == 1)) && (mK 3 3 4)) ( cl Tryz.prog ko [(.int .i64 3)] ip fun r171=>cl Tryz.prog nG [r97,r171] aK fun r172=>br r172 ( cl Tryz.prog ms [(pv r23)] cJ fun r176=>K ((r176.len:Int) == 1)) ( K false)) ( K false)) ( K false)) ( K false)) ( K false))
set_option maxRecDepth 20000 in
theorem uO {K:Bool→Hp→Prop} {h:Hp} (H:oo K h):Ct Tryz.prog kz #[] h fun v h'=>∃ r,v = aK r∧K r h':=aD [] Tryz.func87 rfl rfl rfl fun _=>ah<|ac<|aa (ag rfl) rfl<|ae<|ah<|ac<|aa (bo rfl (build_35_0_1_2 1 2 2)) rfl<|ak (aB H en_60 rfl rfl fun r23 _ H1=>ak (aB H1 en_92 rfl rfl fun r24 _ H2=>ak (aB H2 en_62 rfl rfl fun r25 _ H3=>aa (ag rfl) rfl<|aa (ag rfl) rfl<|aa (ag rfl) rfl<|ae<|ah<|ac<|ak (aB H3 en_63 rfl rfl fun r26 _ H4=>ak (aB H4 en_93 rfl rfl fun r27 _ H5=>ak (aB H5 en_90 rfl rfl fun r28 _ H6=>aa (ag rfl) rfl<|aa (ag rfl) rfl<|aa (ag rfl) rfl<|ae<|ah<|ah<|ac<|aa (ad rfl) rfl<|aa (cA Tryz.underlying93 rfl) rfl<|aa (ad rfl) rfl<|aj rfl rfl rfl (aS _) (fun g7=>wv (ad rfl)) rfl<|aj rfl rfl rfl (aS _) (fun g8=>wv (cA Tryz.underlying128 (aJ rfl g8))) rfl<|aa (dr rfl rfl) rfl<|aa (ad rfl) rfl<|aj rfl rfl rfl (aS _) (fun g9=>wv (ad rfl)) rfl<|aj rfl rfl rfl (aS _) (fun g10=>wv (cA Tryz.underlying97 (aJ rfl g10))) rfl<|aa (dr rfl rfl) rfl<|aa (ad rfl) rfl<|aj rfl rfl rfl (aS _) (fun g11=>wv (ad rfl)) rfl<|aj rfl rfl rfl (aS _) (fun g12=>wv (cA Tryz.underlying103 (aJ rfl g12))) rfl<|aa (dr rfl rfl) rfl<|aa (ad rfl) rfl<|aj rfl rfl rfl (aS _) (fun g13=>wv (ad rfl)) rfl<|aj rfl rfl rfl (aS _) (fun g14=>wv (cA Tryz.underlying133 (aJ rfl g14))) rfl<|aa (dr rfl rfl) rfl<|aa (ad rfl) rfl<|aj rfl rfl rfl (aS _) (fun g15=>wv (ad rfl)) rfl<|aj rfl rfl rfl (aS _) (fun g16=>wv (cA Tryz.underlying124 (aJ rfl g16))) rfl<|aa (dr rfl rfl) rfl<|ae<|aC rfl H6 (fun k17 H18=>ah<|ac<|aa (ag rfl) rfl<|ae<|ao<|aw (az rfl (aE rfl)) ⟨false,rfl,H18⟩) (fun k17 H18=>av<|ah<|ac<|aa (ad rfl) rfl<|aa (bo rfl (ma 1 1)) rfl<|ak (aB H18 en_73 rfl rfl fun r54 _ H19=>aa (ad rfl) rfl<|aa (aq rfl rfl) rfl<|aa (aq rfl rfl) rfl<|ak (aY (l:=(al.C (⟨0,0⟩:al))) dh rfl rfl fun b7=>ak (aZ (k:=0) (vs:=(al.C r54.1)) bX rfl rfl rfl rfl rfl rfl rfl<|aa (ag rfl) rfl<|ae<|ah<|ac<|aa (ad rfl) rfl<|aa (bo rfl (jB 6 2 1 3)) rfl<|ak (aB H19 en_73 rfl rfl fun r60 _ H20=>aa (ad rfl) rfl<|aa (aq rfl rfl) rfl<|aa (aq rfl rfl) rfl<|ak (aY (l:=(al.C (⟨0,0⟩:al))) dh rfl rfl fun b9=>ak (aZ (k:=0) (vs:=(al.C r60.1)) bX rfl rfl rfl rfl rfl rfl rfl<|aa (ag rfl) rfl<|ae<|ah<|ac<|aa (ad rfl) rfl<|aa (bo rfl (jB 21 2 5 77)) rfl<|ak (aB H20 en_73 rfl rfl fun r65 _ H21=>ae<|ah<|ac<|aa (ad rfl) rfl<|aa (bo rfl (tk 20 2 5)) rfl<|ak (aB H21 en_73 rfl rfl fun r69 _ H22=>aa (ad rfl) rfl<|aa (aq rfl rfl) rfl<|aa (aq rfl rfl) rfl<|ak (aY (l:=(al.C (⟨0,0⟩:al))) dh rfl rfl fun b11=>ak (aZ (k:=0) (vs:=(al.C r69.1)) bX rfl rfl rfl rfl rfl rfl rfl<|aa (ag rfl) rfl<|ae<|ah<|ac<|aa (ad rfl) rfl<|ak (aB H22 en_126 rfl rfl fun r73 _ H23=>aa (ad rfl) rfl<|ak (aB H23 en_127 rfl rfl fun r75 _ H24=>aa (ag rfl) rfl<|aa (ag rfl) rfl<|ae<|ah<|ac<|aa (ad rfl) rfl<|ak (aB H24 en_70 rfl rfl fun r78 _ H25=>aa (ad rfl) rfl<|aa (aq rfl rfl) rfl<|aa (aq rfl rfl) rfl<|aa (ag rfl) rfl<|aa (ag rfl) rfl<|ae<|ah<|ac<|aa (ad rfl) rfl<|aa (ad rfl) rfl<|ak (aB H25 en_76 rfl rfl fun r83 _ H26=>aa (ag rfl) rfl<|ae<|ah<|ac<|aa (ad rfl) rfl<|aa (bo rfl (oN 1 1 1)) rfl<|ak (aB H26 en_97 rfl rfl fun r86 _ H27=>aa (ag rfl) rfl<|ae<|ah<|ac<|aa (ad rfl) rfl<|aa (ad rfl) rfl<|aa (ad rfl) rfl<|aa (bo rfl (tk 20 2 3)) rfl<|ak (aB H27 en_128 rfl rfl fun r92 _ H28=>aa (ad rfl) rfl<|aa (aq rfl rfl) rfl<|aa (aq rfl rfl) rfl<|ak (aY (l:=(al.C (⟨0,0⟩:al))) dh rfl rfl fun b19=>ak (aY (l:=(au.C (⟨0,0,0,0⟩:au))) kG rfl rfl fun b20=>ak (aZ (k:=1) (vs:=(al.C r92.1)) bX rfl rfl rfl rfl rfl rfl rfl<|ak (aZ (k:=0) (vs:=(au.C r92.2)) fH rfl rfl rfl rfl rfl rfl rfl<|ae<|ah<|ac<|aa (ad rfl) rfl<|aa (bo rfl (ma 7 5)) rfl<|ak (aB H28 en_129 rfl rfl fun r97 _ H29=>aa (ag rfl) rfl<|ae<|ah<|ac<|ak (aB H29 en_130 rfl rfl fun r98 _ H30=>aa (ad rfl) rfl<|aj rfl rfl rfl (aA _) (fun g31=>wv (ad rfl)) rfl<|aa (bU rfl rfl) rfl<|aa (ad rfl) rfl<|aj rfl rfl rfl (aA _) (fun g32=>wv (an kh rfl)) rfl<|aj rfl rfl rfl (aA _) (fun g33=>cv (bm (k:=4) ov (aJ rfl g33) rfl rfl)) rfl<|aj rfl rfl rfl (aA _) (fun g34=>wv (bV (aJ rfl g34) rfl)) rfl<|aa (bU rfl rfl) rfl<|aa (ad rfl) rfl<|aj rfl rfl rfl (aA _) (fun g35=>wv (an kh rfl)) rfl<|aj rfl rfl rfl (aA _) (fun g36=>cv (bm (k:=3) ov (aJ rfl g36) rfl rfl)) rfl<|aj rfl rfl rfl (aA _) (fun g37=>wv (bV (aJ rfl g37) rfl)) rfl<|aa (bU rfl rfl) rfl<|aa (ad rfl) rfl<|aj rfl rfl rfl (aA _) (fun g38=>wv (an fld_47_1 rfl)) rfl<|aj rfl rfl rfl (aA _) (fun g39=>cv (bm (k:=2) cE (aJ rfl g39) rfl rfl)) rfl<|aj rfl rfl rfl (aA _) (fun g40=>wv (bV (aJ rfl g40) rfl)) rfl<|aa (bU rfl rfl) rfl<|aa (ad rfl) rfl<|aj rfl rfl rfl (aA _) (fun g41=>wv (ad rfl)) rfl<|aj rfl rfl rfl (aA _) (fun g42=>wv (bV (aJ rfl g42) rfl)) rfl<|aa (bU rfl rfl) rfl<|aa (ad rfl) rfl<|aj rfl rfl rfl (aA _) (fun g43=>wv (ad rfl)) rfl<|aj rfl rfl rfl (aA _) (fun g44=>wv (bV (aJ rfl g44) rfl)) rfl<|aa (bU rfl rfl) rfl<|aa (ad rfl) rfl<|aj rfl rfl rfl (aA _) (fun g45=>wv (ad rfl)) rfl<|cc H30 (fun k47 H48=>aL rfl rfl rfl (congrArg Value.bool k47) (aB H48 en_131 (ba (aJ rfl k47) (ba rfl (ba rfl bY))) rfl fun r127 _ H49=>aL rfl rfl rfl (congrArg Value.bool k47) (aQ (wv (dB rfl Tryz.underlying173 rfl)) rfl<|aL rfl rfl rfl (congrArg Value.bool k47) (aQ (wv (bV rfl rfl)) rfl<|aa (bd rfl k47 rfl) rfl<|aa (ad rfl) rfl<|aj rfl rfl rfl (aA _) (fun g50=>wv (ad rfl)) rfl<|aj rfl rfl rfl (aA _) (fun g51=>wv (bV (aJ rfl g51) rfl)) rfl<|aa (bU rfl rfl) rfl<|aa (ad rfl) rfl<|aj rfl rfl rfl (aA _) (fun g52=>wv (ad rfl)) rfl<|aa (bU rfl rfl) rfl<|aa (ad rfl) rfl<|aj rfl rfl rfl (aA _) (fun g53=>wv (ad rfl)) rfl<|aa (bU rfl rfl) rfl<|aa (ad rfl) rfl<|aj rfl rfl rfl (aA _) (fun g54=>wv (ad rfl)) rfl<|cc H49 (fun k56 H57=>aL rfl rfl rfl (congrArg Value.bool k56) (aB H57 en_72 (ba (aJ rfl k56) (ba rfl bY)) rfl fun r143 _ H58=>aL rfl rfl rfl (congrArg Value.bool k56) (aQ (wv (cD rfl)) rfl<|aa (bd rfl k56 rfl) rfl<|aa (ad rfl) rfl<|aj rfl rfl rfl (aA _) (fun g59=>wv (ad rfl)) rfl<|cc H58 (fun k61 H62=>aL rfl rfl rfl (congrArg Value.bool k61) (aB H62 en_106 (ba (aJ rfl k61) (ba rfl bY)) rfl fun r148 _ H63=>aL rfl rfl rfl (congrArg Value.bool k61) (aQ (wv (dB rfl Tryz.underlying41 rfl)) rfl<|aL rfl rfl rfl (congrArg Value.bool k61) (aQ (wv (bV rfl rfl)) rfl<|aa (bd rfl k61 rfl) rfl<|aa (ad rfl) rfl<|aj rfl rfl rfl (aA _) (fun g64=>wv (ad rfl)) rfl<|aj rfl rfl rfl (aA _) (fun g65=>wv (bV (aJ rfl g65) rfl)) rfl<|aa (bU rfl rfl) rfl<|aa (ad rfl) rfl<|aj rfl rfl rfl (aA _) (fun g66=>wv (an kh rfl)) rfl<|aj rfl rfl rfl (aA _) (fun g67=>cv (bm (k:=1) ov (aJ rfl g67) rfl rfl)) rfl<|aj rfl rfl rfl (aA _) (fun g68=>wv (bV (aJ rfl g68) rfl)) rfl<|aa (bU rfl rfl) rfl<|aa (ad rfl) rfl<|aj rfl rfl rfl (aA _) (fun g69=>wv (an ly rfl)) rfl<|aj rfl rfl rfl (aA _) (fun g70=>cv (bm (k:=0) bj (aJ rfl g70) rfl rfl)) rfl<|aj rfl rfl rfl (aA _) (fun g71=>wv (bV (aJ rfl g71) rfl)) rfl<|aa (bU rfl rfl) rfl<|aa (ad rfl) rfl<|de (vs:=[(.int .i64 3),(.int .u64 3),(.int .u64 4)]) rfl rfl rfl (aA _) (fun g72=>(bG (uF 3 3 4 _))) en_132 (fun g72=>rfl) rfl<|aa (bU rfl rfl) rfl<|aa (ad rfl) rfl<|aj rfl rfl rfl (aA _) (fun g73=>wv (ad rfl)) rfl<|cc H63 (fun k75 H76=>aL rfl rfl rfl (congrArg Value.bool k75) (aB H76 xf rfl rfl fun r171 _ H77=>aL rfl rfl rfl (congrArg Value.bool k75) (aB H77 en_133 (ba (aJ rfl k75) (ba rfl bY)) rfl fun r172 _ H78=>aa (bd rfl k75 rfl) rfl<|aa (ad rfl) rfl<|aj rfl rfl rfl (aA _) (fun g79=>wv (ad rfl)) rfl<|cc H78 (fun k81 H82=>aL rfl rfl rfl (congrArg Value.bool k81) (aB H82 en_85 (ba (aJ rfl k81) bY) rfl fun r176 _ H83=>aL rfl rfl rfl (congrArg Value.bool k81) (aQ (wv (dB rfl Tryz.underlying41 rfl)) rfl<|aL rfl rfl rfl (congrArg Value.bool k81) (aQ (wv (bV rfl rfl)) rfl<|aa (bd rfl k81 rfl) rfl<|aa (ag rfl) rfl<|ae<|ao<|aw (az rfl (aE rfl)) ⟨((r176.len:Int) == 1),rfl,H83⟩)))) (fun k81 H82=>am rfl rfl rfl (bc k81) rfl<|am rfl rfl rfl (bc k81) rfl<|am rfl rfl rfl (bc k81) rfl<|aa (ay rfl k81 rfl) rfl<|aa (ag rfl) rfl<|ae<|ao<|aw (az rfl (aE rfl)) ⟨false,rfl,H82⟩)))) (fun k75 H76=>am rfl rfl rfl (bc k75) rfl<|am rfl rfl rfl (bc k75) rfl<|aa (ay rfl k75 rfl) rfl<|aa (ad rfl) rfl<|am rfl rfl rfl rfl rfl<|am rfl rfl rfl rfl rfl<|am rfl rfl rfl rfl rfl<|am rfl rfl rfl rfl rfl<|aa (ay rfl rfl rfl) rfl<|aa (ag rfl) rfl<|ae<|ao<|aw (az rfl (aE rfl)) ⟨false,rfl,H76⟩))))) (fun k61 H62=>am rfl rfl rfl (bc k61) rfl<|am rfl rfl rfl (bc k61) rfl<|am rfl rfl rfl (bc k61) rfl<|aa (ay rfl k61 rfl) rfl<|aa (ad rfl) rfl<|am rfl rfl rfl rfl rfl<|am rfl rfl rfl rfl rfl<|aa (ay rfl rfl rfl) rfl<|aa (ad rfl) rfl<|am rfl rfl rfl rfl rfl<|am rfl rfl rfl rfl rfl<|am rfl rfl rfl rfl rfl<|aa (ay rfl rfl rfl) rfl<|aa (ad rfl) rfl<|am rfl rfl rfl rfl rfl<|am rfl rfl rfl rfl rfl<|am rfl rfl rfl rfl rfl<|aa (ay rfl rfl rfl) rfl<|aa (ad rfl) rfl<|am rfl rfl rfl rfl rfl<|aa (ay rfl rfl rfl) rfl<|aa (ad rfl) rfl<|am rfl rfl rfl rfl rfl<|am rfl rfl rfl rfl rfl<|am rfl rfl rfl rfl rfl<|aa (ay rfl rfl rfl) rfl<|aa (ad rfl) rfl<|am rfl rfl rfl rfl rfl<|am rfl rfl rfl rfl rfl<|am rfl rfl rfl rfl rfl<|am rfl rfl rfl rfl rfl<|aa (ay rfl rfl rfl) rfl<|aa (ag rfl) rfl<|ae<|ao<|aw (az rfl (aE rfl)) ⟨false,rfl,H62⟩)))) (fun k56 H57=>am rfl rfl rfl (bc k56) rfl<|am rfl rfl rfl (bc k56) rfl<|aa (ay rfl k56 rfl) rfl<|aa (ad rfl) rfl<|am rfl rfl rfl rfl rfl<|am rfl rfl rfl rfl rfl<|am rfl rfl rfl rfl rfl<|am rfl rfl rfl rfl rfl<|aa (ay rfl rfl rfl) rfl<|aa (ad rfl) rfl<|am rfl rfl rfl rfl rfl<|am rfl rfl rfl rfl rfl<|aa (ay rfl rfl rfl) rfl<|aa (ad rfl) rfl<|am rfl rfl rfl rfl rfl<|am rfl rfl rfl rfl rfl<|am rfl rfl rfl rfl rfl<|aa (ay rfl rfl rfl) rfl<|aa (ad rfl) rfl<|am rfl rfl rfl rfl rfl<|am rfl rfl rfl rfl rfl<|am rfl rfl rfl rfl rfl<|aa (ay rfl rfl rfl) rfl<|aa (ad rfl) rfl<|am rfl rfl rfl rfl rfl<|aa (ay rfl rfl rfl) rfl<|aa (ad rfl) rfl<|am rfl rfl rfl rfl rfl<|am rfl rfl rfl rfl rfl<|am rfl rfl rfl rfl rfl<|aa (ay rfl rfl rfl) rfl<|aa (ad rfl) rfl<|am rfl rfl rfl rfl rfl<|am rfl rfl rfl rfl rfl<|am rfl rfl rfl rfl rfl<|am rfl rfl rfl rfl rfl<|aa (ay rfl rfl rfl) rfl<|aa (ag rfl) rfl<|ae<|ao<|aw (az rfl (aE rfl)) ⟨false,rfl,H57⟩))))) (fun k47 H48=>am rfl rfl rfl (bc k47) rfl<|am rfl rfl rfl (bc k47) rfl<|am rfl rfl rfl (bc k47) rfl<|aa (ay rfl k47 rfl) rfl<|aa (ad rfl) rfl<|am rfl rfl rfl rfl rfl<|am rfl rfl rfl rfl rfl<|aa (ay rfl rfl rfl) rfl<|aa (ad rfl) rfl<|am rfl rfl rfl rfl rfl<|aa (ay rfl rfl rfl) rfl<|aa (ad rfl) rfl<|am rfl rfl rfl rfl rfl<|aa (ay rfl rfl rfl) rfl<|aa (ad rfl) rfl<|am rfl rfl rfl rfl rfl<|am rfl rfl rfl rfl rfl<|am rfl rfl rfl rfl rfl<|aa (ay rfl rfl rfl) rfl<|aa (ad rfl) rfl<|am rfl rfl rfl rfl rfl<|am rfl rfl rfl rfl rfl<|am rfl rfl rfl rfl rfl<|am rfl rfl rfl rfl rfl<|aa (ay rfl rfl rfl) rfl<|aa (ad rfl) rfl<|am rfl rfl rfl rfl rfl<|am rfl rfl rfl rfl rfl<|aa (ay rfl rfl rfl) rfl<|aa (ad rfl) rfl<|am rfl rfl rfl rfl rfl<|am rfl rfl rfl rfl rfl<|am rfl rfl rfl rfl rfl<|aa (ay rfl rfl rfl) rfl<|aa (ad rfl) rfl<|am rfl rfl rfl rfl rfl<|am rfl rfl rfl rfl rfl<|am rfl rfl rfl rfl rfl<|aa (ay rfl rfl rfl) rfl<|aa (ad rfl) rfl<|am rfl rfl rfl rfl rfl<|aa (ay rfl rfl rfl) rfl<|aa (ad rfl) rfl<|am rfl rfl rfl rfl rfl<|am rfl rfl rfl rfl rfl<|am rfl rfl rfl rfl rfl<|aa (ay rfl rfl rfl) rfl<|aa (ad rfl) rfl<|am rfl rfl rfl rfl rfl<|am rfl rfl rfl rfl rfl<|am rfl rfl rfl rfl rfl<|am rfl rfl rfl rfl rfl<|aa (ay rfl rfl rfl) rfl<|aa (ag rfl) rfl<|ae<|ao<|aw (az rfl (aE rfl)) ⟨false,rfl,H48⟩))))))))))))))))))))))))))))))
def oq (K:Bool→Hp→Prop):Hp→Prop:=cl Tryz.prog kz [] aK fun r1=>K r1
set_option maxRecDepth 20000 in
theorem uP {K:Bool→Hp→Prop} {h:Hp} (H:oq K h):Ct Tryz.prog kA #[] h fun v h'=>∃ r,v = aK r∧K r h':=aD [] Tryz.func50 rfl rfl rfl fun _=>ah<|ac<|aa (ag rfl) rfl<|ae<|ah<|ac<|ak (aB H en_87 rfl rfl fun r1 _ H1=>aa (ag rfl) rfl<|ae<|ao<|aw (az rfl (aE rfl)) ⟨r1,rfl,H1⟩)
end Go.Proofs.YtniiiakkdoiaiaaGreatDoor
namespace Go.Proofs.YtniiiakkdoiaiaaGreatDoor
open Go Mb
variable {ET:Nat} {EF:Nat × Nat}
section
variable {l:List As} {h:Hp} {x:Ptr}
theorem plain_nn {k:PK} (s:aP (bE x k::l) h):x.isNone = false:=nn_of (fun _ e=>by rw [e.1]; rfl) s
theorem tree_nn {k:Caps.T} (s:aP (cR x k::l) h):x.isNone = false:=nn_of (fun _ e=>by rw [e.1]; rfl) s
theorem epochs_nn {k:List Int × List Int} (s:aP (eX x k::l) h):x.isNone = false:=nn_of (fun _ e=>by rw [e.1]; rfl) s
end
theorem sp_plain_Err (x:Ptr) (k:PK) (e:Int) (c:ap) (h1:(PK.do_ k e c).1.2 = true) (h2:(PK.do_ k e c).1.1.fErr ≠ 0):Sp Tryz.prog ne [pv x,.int .i64 e,.agg c.C.toArray] ip [(etB ET EF),bE x k]
    (fun r=>ex fun b:Nat × Nat=>pa_ (r = dy b.1) [trB b.1 ⟨(PK.do_ k e c).1.1.fErr,e,c,dy b.2⟩,(etB ET EF),bE x k]):=by
  intro h st
  have hn:=plain_nn (bp [1] st rfl)
  refine sim_plain_Kernel_Err _ _ _ ?_
  unfold rq
  refine dJ hn ?_
  refine cl_n (i:=1) (ur x k) rfl st fun y g1 s1=>?_
  refine bZ (i:=0) (jG y k e c) rfl s1 fun r g2 hr s2=>?_
  subst hr
  refine dJ (by rw [h1]; rfl) ?_
  refine cW [] (rest:=[_,_,_]) (sp_Of _ h2) s2 rfl fun r g3 s3=>?_
  obtain ⟨b,x3⟩:=ui s3
  obtain ⟨rfl,y3⟩:=bF.1 x3
  refine cW [2,0] (rest:=[_,_]) (sp_In e c b _) y3 rfl fun r g4 s4=>?_
  obtain ⟨d,x4⟩:=ui s4
  obtain ⟨rfl,y4⟩:=bF.1 x4
  refine ⟨(d,b),bi rfl (ct (l:=[_,_]) (bp [2,2] y4 rfl))⟩
theorem sp_begun11:Sp Tryz.prog kz [] aK [(etB ET EF)] (fun r=>pa_ (r = true) [(etB ET EF)]):=by
  intro h st
  refine uO ?_
  unfold oo
  refine my (rI ⟨1,2,2⟩ (by decide)) st fun a1 h1 s1=>?_
  refine my (sp_caps_New 2 (by decide) (by decide)) s1 fun a2 h2 s2=>?_
  refine my (rK 3 (by decide) (by decide)) s2 fun a3 h3 s3=>?_
  refine my vZ s3 fun a4 h4 s4=>?_
  refine my nX s4 fun a5 h5 s5=>?_
  refine my (sp_mem_New 2 (by decide) (by decide)) s5 fun a6 h6 s6=>?_
  have n1:=plain_nn s1
  have n2:=tree_nn s2
  have n3:=epochs_nn s3
  have n4:=tlb_nn s4
  have n5:=table_nn s5
  have n6:=mem_nn s6
  rw [n1,n2,n3,n4,n5,n6]
  refine dJ rfl ?_
  refine bZ (i:=5) (jG a1 _ 0 ⟨1,1,0,0,0⟩) rfl s6 fun r1 h7 e1 s7=>?_
  refine bZ (i:=5) (jG a1 _ 0 ⟨6,2,1,3,0⟩) rfl s7 fun r2 h8 e2 s8=>?_
  refine bZ (i:=5) (jG a1 _ 0 ⟨21,2,5,77,0⟩) rfl s8 fun r3 h9 e3 s9=>?_
  refine bZ (i:=5) (jG a1 _ 0 ⟨20,2,5,0,0⟩) rfl s9 fun r4 h10 e4 s10=>?_
  refine bZ (i:=4) (we a2 _ 0 1 1) rfl s10 fun r5 h11 e5 s11=>?_
  refine bZ (i:=4) (su a2 _ 0 1 1 3 1) rfl s11 fun r6 h12 e6 s12=>?_
  refine bZ (i:=3) (sp_epoch_Begin a3 _ 0 (by decide)) rfl s12 fun r7 h13 e7 s13=>?_
  subst e7
  refine bZ (i:=3) (sp_epoch_Ack a3 _ 1 _) rfl s13 fun r8 h14 e8 s14=>?_
  refine bZ (i:=1) (jY a5 _ 2 ⟨1,1,1⟩) rfl s14 fun r9 h15 e9 s15=>?_
  refine cW [2,1,0] (rest:=[_,_,_,_]) (sp_user_Do a4 a5 a6 _ _ _ 0 ⟨20,2,3,0,0⟩) s15 rfl fun r10 h16 x16=>?_
  obtain ⟨e10,s16⟩:=bF.1 x16
  subst e1 e2 e3 e4 e5 e6 e8 e9 e10
  refine cW [6,5] (rest:=[_,_,_,_,_]) (sp_plain_Err a1 _ 0 ⟨7,5,0,0,0⟩ (by kernel_rfl) (by decide)) s16 rfl fun r11 h17 x17=>?_
  obtain ⟨⟨b,b'⟩,z17⟩:=ui x17
  obtain ⟨rfl,s17⟩:=bF.1 z17
  refine bZ (i:=1) sp_Begun2 rfl s17 fun r12 h18 e12 s18=>?_
  subst e12
  refine dW (by kernel_rfl) ?_
  refine cl_n (i:=7) (sp_caps_Below a2 _ 0 1) rfl s18 fun r13 h19 s19=>?_
  have e13:((r13.len:Int) == 1) = true:=by
    rw [(cq (j:=0) s19 rfl).1]
    kernel_rfl
  rw [e13]
  refine dW (by kernel_rfl) ?_
  refine bZ (i:=7) (sp_epoch_Done a3 _ 1) rfl s19 fun r14 h20 e14 s20=>?_
  subst e14
  refine dW (by kernel_rfl) ?_
  refine cl_n (i:=7) (sp_epoch_Waits a3 _ 1) rfl s20 fun r15 h21 s21=>?_
  have e15:((r15.len:Int) == 1) = true:=by
    rw [(cq (j:=0) s21 rfl).1]
    kernel_rfl
  rw [e15]
  refine dW (by kernel_rfl) ?_
  refine cW [] (rest:=[_,_,_,_,_,_,_,_,_,_]) (sp_Of 3 (by decide)) s21 rfl fun r16 h22 x22=>?_
  obtain ⟨d,z22⟩:=ui x22
  obtain ⟨rfl,s22⟩:=bF.1 z22
  refine cW [3,0] (rest:=[_,_,_,_,_,_,_,_,_]) (sp_Is1 b d _ tr3 (by kernel_rfl) (.inr ⟨b',by kernel_rfl⟩)) s22 rfl fun r17 h23 x23=>?_
  obtain ⟨rfl,s23⟩:=bF.1 x23
  refine dW rfl ?_
  refine cl_n (i:=5) (sp_plain_Free a1 _) rfl s23 fun r18 h24 s24=>?_
  have e18:((r18.len:Int) == 1) = true:=by
    rw [(cq (j:=0) s24 rfl).1]
    kernel_rfl
  exact bi e18 (ct (l:=[_,_,_,_,_,_,_,_,_,_,_]) (bp [0,0,0,0,0,1,1,1,1,1,1] s24 rfl))
theorem sp_Begun11:Sp Tryz.prog kA [] aK [(etB ET EF)] (fun r=>pa_ (r = true) [(etB ET EF)]):=by
  intro h st
  refine uP ?_
  unfold oq
  exact bZ (i:=0) sp_begun11 rfl st fun r h' hr s=>bi hr s
end Go.Proofs.YtniiiakkdoiaiaaGreatDoor
namespace Go.Proofs.YtniiiakkdoiaiaaGreatDoor
open Go Mb
theorem calls_nil:∀ (n:Nat) {l:List As} {h:Hp},aP l h→aP (all iw (List.replicate n (none:Ptr)) (List.replicate n (none:Option KC))::l) h
  | 0,_,_,s=>all_nil s
  | n + 1,l,h,s=>by
    have s1:=star_cons (A:=iw none none) (fun _=>rfl) (calls_nil n s)
    rw [List.replicate_succ,List.replicate_succ]
    obtain ⟨h1,h2,d,e,a,h3,h4,d2,e2,b,s'⟩:=s1
    subst e2
    obtain ⟨d3,d4⟩:=Dj.of_un_right d
    exact ⟨un h1 h3,h4,Dj.un_left d4 d2,by rw [e,mB],⟨h1,h3,d3,rfl,a,b⟩,s'⟩
def newI (s:kQ) (b n:Nat) (pp pm pe:Ptr) (cs:Sl) (i:Int) (h:Hp):Prop:=∃ (j:Nat) (ts:Sl) (tp:List Ptr),i = j∧j ≤ n∧tp.length = j∧aP [blk b cr [pv pp,.int .i64 s.fEnvs,sv ts,pv pm,pv pe,sv cs,sv (⟨none,0,0,none⟩:Sl),.int .i64 0],bE pp (PK.new s),vQ so ts tp,all fC tp (List.replicate j tlb0),jd pm (List.replicate n []),eX pe ([],List.replicate n 0),vQ fh cs (List.replicate n none),all iw (List.replicate n none) (List.replicate n none),vE (⟨none,0,0,none⟩:Sl) []] h
theorem new_round {s:kQ} {b n:Nat} {pp pm pe:Ptr} {cs:Sl} (hn8:n ≤ 8) {i:Int} {h:Hp} (H:newI s b n pp pm pe cs i h) (hi:i < n) :
    (both (ld (b,2) cS fun x31=>cl Tryz.prog iz [] gx fun r32=>hpv Tryz.prog (Instr.buildSlice cd 1 #[(0,(pv r32))]) dS fun (v33:Sl)=>hpv Tryz.prog (Builtin.append_ #[cd,cd] cd #[(sv x31),(sv v33)]) dS fun (v34:Sl)=>Mb.st (b,2) [sv v34] fun h'=>newI s b n pp pm pe cs (IntKind.i64.wrap (i + 1)) h'∧n - (IntKind.i64.wrap (i + 1)).toNat < n - i.toNat)
     (cl Tryz.prog iz [] gx fun r32=>ld (b,2) cS fun x31=>hpv Tryz.prog (Instr.buildSlice cd 1 #[(0,(pv r32))]) dS fun (v33:Sl)=>hpv Tryz.prog (Builtin.append_ #[cd,cd] cd #[(sv x31),(sv v33)]) dS fun (v34:Sl)=>Mb.st (b,2) [sv v34] fun h'=>newI s b n pp pm pe cs (IntKind.i64.wrap (i + 1)) h'∧n - (IntKind.i64.wrap (i + 1)).toNat < n - i.toNat)) h:=by
  obtain ⟨j,ts,tp,rfl,hj,htp,s6⟩:=H
  have hlt:j < n:=by omega
  have hw:IntKind.i64.wrap ((j:Int) + 1) = ((j + 1:Nat):Int):=by rw [cf (by omega) (by omega)]; rfl
  rw [hw]
  have fin:∀ (r:Ptr) (v:Sl) (h:Hp),aP [fC r tlb0,blk b cr [pv pp,.int .i64 s.fEnvs,sv ts,pv pm,pv pe,sv cs,sv (⟨none,0,0,none⟩:Sl),.int .i64 0],bE pp (PK.new s),vQ so v (tp++[r]),all fC tp (List.replicate j tlb0),jd pm (List.replicate n []),eX pe ([],List.replicate n 0),vQ fh cs (List.replicate n none),all iw (List.replicate n none) (List.replicate n none),vE (⟨none,0,0,none⟩:Sl) []] h →
      Mb.st (b,2) [sv v] (fun h'=>newI s b n pp pm pe cs ((j + 1:Nat):Int) h'∧n - ((j + 1:Nat):Int).toNat < n - (j:Int).toNat) h:=by
    intro r v h s7
    refine uq (i:=1) s7 rfl (Nat.le_of_ble_eq_true rfl) fun h8 s8=>?_
    refine ⟨⟨j + 1,v,tp++[r],rfl,hlt,by simp [htp],?_⟩,by simp; omega⟩
    have s9:=all_push (by simp [htp]) (bp [0,3] s8 rfl)
    have e:List.replicate j tlb0++[tlb0] = List.replicate (j + 1) tlb0:=List.replicate_succ'.symm
    rw [e] at s9
    exact bp [1,1,1,0] s9 rfl
  refine ⟨?_,?_⟩
  · refine bB ts s6 (i:=0) rfl rfl rfl ?_
    refine my vZ s6 fun r h7 s7=>?_
    refine kr (τ:=Ptr) (i:=3) (enc:=cP) (val:=fun x=>pv x) el_SPtlb_Tlb gP cP_one (fun _=>rfl) (by omega) rfl rfl s7 rfl (by omega) (by omega) fun v h8 s8=>?_
    exact fin r v h8 s8
  · refine my vZ s6 fun r h7 s7=>?_
    refine bB ts s7 (i:=1) rfl rfl rfl ?_
    refine kr (τ:=Ptr) (i:=3) (enc:=cP) (val:=fun x=>pv x) el_SPtlb_Tlb gP cP_one (fun _=>rfl) (by omega) rfl rfl s7 rfl (by omega) (by omega) fun v h8 s8=>?_
    exact fin r v h8 s8
theorem new_start {s:kQ} {b n:Nat} {pp pm pe:Ptr} {cs:Sl} {h:Hp}
    (st:aP [blk b cr (fE.C (⟨pp,s.fEnvs,(⟨none,0,0,none⟩:Sl),pm,pe,cs,(⟨none,0,0,none⟩:Sl),0⟩:fE)),bE pp (PK.new s),jd pm (List.replicate n []),eX pe ([],List.replicate n 0),vQ fh cs (List.replicate n none)] h):newI s b n pp pm pe cs 0 h:=by
  have s1:=fI (τ:=co) (T:=t_api_Event) (m:=16) (enc:=aM.C) (calls_nil n (fI (τ:=Ptr) (T:=so) (m:=1) (enc:=cP) (all_nil (A:=fC) st)))
  exact ⟨0,⟨none,0,0,none⟩,[],rfl,Nat.zero_le _,rfl,bp [4,4,2,2,2,2,2,1] s1 rfl⟩
theorem new_end {s:kQ} (hs:PK.sized s = true) {b n:Nat} (hn:s.fCores = n) {pp pm pe:Ptr} {cs:Sl} {h:Hp} (H:newI s b n pp pm pe cs n h):aP [dz (some (b,0)) (KK.new s)] h:=by
  obtain ⟨j,ts,tp,hj,hj2,htp,s6⟩:=H
  have:j = n:=by omega
  subst this
  have ok:=kok_new hs
  have e:KK.new s = ⟨PK.new s,List.replicate j tlb0,List.replicate j [],([],List.replicate j 0),List.replicate j none,[],0⟩:=by unfold KK.new; rw [hn]; rfl
  rw [e] at ok ⊢
  exact qd (z:=⟨b,pp,ts,tp,pm,pe,cs,List.replicate j none,⟨none,0,0,none⟩⟩) ⟨by simpa using htp,by simp⟩ ok s6
theorem sp_kern_New (s:kQ) (hs:PK.sized s = true):Sp Tryz.prog n_kern_New [.agg s.C.toArray] xi [] (fun r=>aP [dz r (KK.new s)]):=by
  intro h st
  have hz:=jq.1 hs
  obtain ⟨n,hn⟩:=Int.eq_ofNat_of_zero_le (show 0 ≤ s.fCores by omega)
  have hn8:n ≤ 8:=by omega
  refine sim_kern_New _ ?_
  unfold sh_kern_New
  refine my (rI s hs) st fun pp h1 s1=>?_
  have hpp:pp.isNone = false:=by
    obtain ⟨_,h2,_⟩:=fJ s1; rw [h2]; rfl
  refine dJ hpp ?_
  have mk:∀ {l:List As} {h:Hp} {K:Sl→Hp→Prop},aP l h→(∀ v h',aP (vQ fh v (List.replicate n none)::l) h'→K v h')→hpv Tryz.prog (Instr.makeSlice mH (.int .i64 s.fCores) (.int .i64 s.fCores)) qh K h:=by
    intro l h K s2 k
    rw [hn]
    exact nI (τ:=Ptr) (x0:=none) (enc:=cP) (n:=n) (T:=fh) (m:=1) el_SPkern_call rfl s2 (by omega) (by omega) k
  have em:s.fCores.toNat = n:=by omega
  refine ⟨?_,?_⟩
  · refine my (sp_mail_New s.fCores (by omega) (by omega)) s1 fun pm h2 s2=>?_
    refine ⟨?_,?_⟩
    · refine my (rK s.fCores (by omega) (by omega)) s2 fun pe h3 s3=>?_
      rw [em] at s3
      refine mk s3 fun cs h4 s4=>?_
      refine oS s4 fun b h5 s5=>?_
      refine Lp.intro (fun (i:Int) h=>newI s b n pp pm pe cs i h) (fun (i:Int) _=>n - i.toNat) (new_start (bp [0,4,3,2,1] s5 rfl)) ?_
      intro i h H
      unfold kern_New_l1
      refine bk (fun d=>new_round hn8 H (by have:=of_decide_eq_true d; omega)) (fun d=>?_)
      have:i = n:=by obtain ⟨j,_,_,e,hj,_⟩:=H; have:=of_decide_eq_false d; omega
      subst this
      exact new_end hs hn H
    · refine mk s2 fun cs h3 s3=>?_
      refine my (rK s.fCores (by omega) (by omega)) s3 fun pe h4 s4=>?_
      rw [em] at s4
      refine oS s4 fun b h5 s5=>?_
      refine Lp.intro (fun (i:Int) h=>newI s b n pp pm pe cs i h) (fun (i:Int) _=>n - i.toNat) (new_start (bp [0,3,2,0,0] s5 rfl)) ?_
      intro i h H
      unfold kern_New_l2
      refine bk (fun d=>new_round hn8 H (by have:=of_decide_eq_true d; omega)) (fun d=>?_)
      have:i = n:=by obtain ⟨j,_,_,e,hj,_⟩:=H; have:=of_decide_eq_false d; omega
      subst this
      exact new_end hs hn H
  · refine mk s1 fun cs h2 s2=>?_
    refine my (sp_mail_New s.fCores (by omega) (by omega)) s2 fun pm h3 s3=>?_
    refine my (rK s.fCores (by omega) (by omega)) s3 fun pe h4 s4=>?_
    rw [em] at s4
    refine oS s4 fun b h5 s5=>?_
    refine Lp.intro (fun (i:Int) h=>newI s b n pp pm pe cs i h) (fun (i:Int) _=>n - i.toNat) (new_start (bp [0,3,1,0,0] s5 rfl)) ?_
    intro i h H
    unfold kern_New_l3
    refine bk (fun d=>new_round hn8 H (by have:=of_decide_eq_true d; omega)) (fun d=>?_)
    have:i = n:=by obtain ⟨j,_,_,e,hj,_⟩:=H; have:=of_decide_eq_false d; omega
    subst this
    exact new_end hs hn H
end Go.Proofs.YtniiiakkdoiaiaaGreatDoor
namespace Go.Proofs.YtniiiakkdoiaiaaGreatDoor
open Go Mb
def CmpOk (v:Value) (A:List As) (key:Int→Int) (S:Int→Prop):Prop :=
  ∀ x y,S x→S y→SpV Tryz.prog v [.int .i64 x,.int .i64 y] dO A (fun r=>pa_ (r < 0↔key x < key y) A)
abbrev Up (key:Int→Int) (l:List Int):Prop:=l.Pairwise fun x y=>key x ≤ key y
theorem mid_get {L R:List Int} {x:Int}:(L++x::R)[L.length]? = some x:=by simp
theorem mid_get1 {L R:List Int} {x y:Int}:(L++x::y::R)[L.length + 1]? = some y:=by
  rw [List.getElem?_append_right (by omega),show L.length + 1 - L.length = 1 from by omega]; rfl
theorem mid_set {L R:List Int} {x v:Int}:(L++x::R).set L.length v = L++v::R:=by simp
theorem mid_set1 {L R:List Int} {x y v:Int}:(L++x::y::R).set (L.length + 1) v = L++x::v::R:=by
  rw [List.set_append_right _ _ (by omega),show L.length + 1 - L.length = 1 from by omega]; rfl
theorem up_insert {key:Int→Int} {a1 a2:List Int} {y:Int} (h:Up key (a1++a2)) (h1:∀ x ∈ a1,key x ≤ key y) (h2:∀ x ∈ a2,key y < key x):Up key (a1++y::a2):=by
  obtain ⟨p1,p2,p3⟩:=List.pairwise_append.1 h
  refine List.pairwise_append.2 ⟨p1,List.pairwise_cons.2 ⟨fun x hx=>Int.le_of_lt (h2 x hx),p2⟩,fun x hx z hz=>?_⟩
  rcases List.mem_cons.1 hz with rfl | hz
  · exact h1 x hx
  · exact p3 x hx z hz
theorem sp_insertion (s:Sl) (v:Value) (A:List As) (key:Int→Int) (S:Int→Prop) (hv:CmpOk v A key S) (p m q:List Int) (hS:∀ x ∈ m,S x) (hb:p.length + m.length + q.length < 2 ^ 60) :
    Sp Tryz.prog cj [sv s,.int .i64 p.length,.int .i64 (p.length + m.length:Nat),v] R_ (vI s (p++(m++q))::A) (fun _ h=>∃ m',(m'.Perm m∧Up key m')∧aP (vI s (p++(m'++q))::A) h):=by
  intro h s0
  have hl:=(cq (j:=0) s0 rfl).1
  refine mI _ _ _ _ ?_
  unfold hU
  have hw0:IntKind.i64.wrap ((p.length:Int) + 1) = ((p.length + 1:Nat):Int):=by rw [cf (by omega) (by omega)]; rfl
  rw [hw0]
  cases m with
  | nil =>
    refine Lp.intro (fun (i:Int) h=>i = ((p.length + 1:Nat):Int)∧aP (vI s (p++([]++q))::A) h) (fun _ _=>0) ⟨rfl,s0⟩ ?_
    rintro i h ⟨rfl,s1⟩
    unfold dH
    refine dJ (by simp; omega) ?_
    exact ⟨[],⟨.refl _,.nil⟩,s1⟩
  | cons x0 t0 =>
    refine Lp.intro (fun (i:Int) h=>∃ a b:List Int,i = ((p.length + a.length:Nat):Int)∧Up key a∧(a++b).Perm (x0::t0)∧aP (vI s (p++((a++b)++q))::A) h) (fun (i:Int) _=>p.length + (x0::t0).length - i.toNat) ⟨[x0],t0,rfl,List.pairwise_singleton _ _,.refl _,s0⟩ ?_
    rintro i h ⟨a,b,rfl,ha,hp,s1⟩
    have hlen:=hp.length_eq
    simp only [List.length_append] at hlen
    have hsl:=(cq (j:=0) s1 rfl).1
    unfold dH
    refine bk (fun k=>?_) (fun k=>?_)
    · have hbp:0 < b.length:=by have:=of_decide_eq_true k; omega
      obtain ⟨y,b',rfl⟩:=List.exists_cons_of_length_pos hbp
      have hS':∀ x ∈ a++y::b',S x:=fun x hx=>hS x (hp.subset hx)
      have hw1:IntKind.i64.wrap (((p.length + a.length:Nat):Int) + 1) = ((p.length + a.length + 1:Nat):Int):=by rw [cf (by omega) (by omega)]; rfl
      have out:∀ (a1 a2:List Int) (h:Hp),a1++a2 = a→(∀ x ∈ a1,key x ≤ key y)→(∀ x ∈ a2,key y < key x)→aP (vI s (p++((a1++y::(a2++b'))++q))::A) h →
          (fun (s':Int) h'=>(∃ a b:List Int,s' = ((p.length + a.length:Nat):Int)∧Up key a∧(a++b).Perm (x0::t0)∧aP (vI s (p++((a++b)++q))::A) h')∧p.length + (x0::t0).length - s'.toNat < p.length + (x0::t0).length - ((p.length + a.length:Nat):Int).toNat) (IntKind.i64.wrap (((p.length + a.length:Nat):Int) + 1)) h:=by
        intro a1 a2 h he h1 h2 s2
        subst he
        rw [hw1]
        refine ⟨⟨a1++y::a2,b',by simp; omega,up_insert ha h1 h2,?_,?_⟩,by simp at hlen ⊢; omega⟩
        · refine List.Perm.trans ?_ hp
          have:(a1++y::a2++b').Perm (a1++a2++y::b'):=by
            rw [List.append_assoc,List.append_assoc]
            refine List.Perm.append_left a1 ?_
            simpa using (List.perm_middle (a:=y) (l₁:=a2) (l₂:=b')).symm
          exact this
        · have:a1++y::a2++b' = a1++y::(a2++b'):=by simp
          rw [this]; exact s2
      refine Lp.intro (fun (j:Int) h=>∃ a1 a2:List Int,a1++a2 = a∧j = ((p.length + a1.length:Nat):Int)∧(∀ x ∈ a2,key y < key x)∧aP (vI s (p++((a1++y::(a2++b'))++q))::A) h) (fun (j:Int) _=>j.toNat) ⟨a,[],by simp,rfl,fun x hx=>(by cases hx),by simpa using s1⟩ ?_
      rintro j h ⟨a1,a2,he,rfl,h2,s2⟩
      unfold eQ
      refine bk (fun k2=>?_) (fun k2=>?_)
      · have hne:a1 ≠ []:=by
          intro e; subst e; simp at k2
        obtain ⟨L0,z,rfl⟩:∃ L z,a1 = L++[z]:=⟨a1.dropLast,a1.getLast hne,(List.dropLast_concat_getLast hne).symm⟩
        have hal:a.length = L0.length + 1 + a2.length:=by rw [← he]; simp; omega
        have hdec:p++((L0++[z]++y::(a2++b'))++q) = (p++L0)++z::y::(a2++b'++q):=by simp
        rw [hdec] at s2
        have hlL:(p++L0).length = p.length + L0.length:=by simp
        have hj:((p.length + (L0++[z]).length:Nat):Int) = (((p++L0).length + 1:Nat):Int):=by simp; omega
        rw [hj]
        have hsl2:=(cq (j:=0) s2 rfl).1
        have hw2:IntKind.i64.wrap ((((p++L0).length + 1:Nat):Int) - 1) = (((p++L0).length:Nat):Int):=by rw [cf (by omega) (by omega)]; omega
        rw [hw2]
        refine dE s2 (j:=0) rfl (by omega) (by simp; omega) fun q1 hq1=>?_
        refine dE s2 (j:=0) rfl (by omega) (by simp; omega) fun q2 hq2=>?_
        refine eC (j:=0) (i:=(p++L0).length + 1) (k:=0) y (dk _) s2 rfl hq1 (by rw [Int.toNat_natCast]; rfl) mid_get1 (by simp) ?_
        refine eC (j:=0) (i:=(p++L0).length) (k:=0) z (dk _) s2 rfl hq2 (by rw [Int.toNat_natCast]; rfl) mid_get (by simp) ?_
        have hSy:S y:=hS' y (by simp)
        have hSz:S z:=hS' z (by rw [← he]; simp)
        refine clv_t (hv y z hSy hSz) s2 fun r h3 s3=>?_
        obtain ⟨hr,s4⟩:=bF.1 s3
        have s5:=star_rot s4
        refine bk (fun k3=>?_) (fun k3=>?_)
        · have k3':key y < key z:=hr.1 (of_decide_eq_true k3)
          refine eC (j:=0) (i:=(p++L0).length) (k:=0) z (dk _) s5 rfl hq2 (by rw [Int.toNat_natCast]; rfl) mid_get (by simp) ?_
          refine eC (j:=0) (i:=(p++L0).length + 1) (k:=0) y (dk _) s5 rfl hq1 (by rw [Int.toNat_natCast]; rfl) mid_get1 (by simp) ?_
          refine st_v (j:=0) (i:=(p++L0).length + 1) (k:=0) z (dk _) s5 rfl hq1 (by rw [Int.toNat_natCast]; rfl) mid_get1 (by simp) rfl fun h6 s6=>?_
          rw [mid_set1] at s6
          refine st_v (j:=0) (i:=(p++L0).length) (k:=0) y (dk _) s6 rfl hq2 (by rw [Int.toNat_natCast]; rfl) mid_get (by simp) rfl fun h7 s7=>?_
          refine ⟨⟨L0,z::a2,by rw [← he]; simp,by rw [hlL],fun x hx=>?_,?_⟩,by simp only [Int.toNat_natCast]; omega⟩
          · rcases List.mem_cons.1 hx with rfl | hx
            · exact k3'
            · exact h2 x hx
          · have e2:p++((L0++y::(z::a2++b'))++q) = (p++L0)++y::z::(a2++b'++q):=by simp
            rw [e2]
            have s8:aP (vI s (((p++L0)++z::z::(a2++b'++q)).set (p++L0).length y)::A) h7:=s7
            rw [mid_set] at s8
            exact s8
        · have k3':key z ≤ key y:=by
            have:¬ key y < key z:=fun hh=>by have:=hr.2 hh; simp at k3; omega
            omega
          refine out (L0++[z]) a2 h3 he (fun x hx=>?_) h2 (by rw [hdec]; exact s5)
          have hup:Up key (L0++[z]):=by
            rw [← he] at ha
            exact (List.pairwise_append.1 ha).1
          rcases List.mem_append.1 hx with hx | hx
          · have:=(List.pairwise_append.1 hup).2.2 x hx z (by simp)
            omega
          · rw [List.mem_singleton.1 hx]; exact k3'
      · have e:a1 = []:=by
          have:=of_decide_eq_false k2
          exact List.eq_nil_of_length_eq_zero (by omega)
        subst e
        exact out [] a2 h he (fun x hx=>by cases hx) h2 s2
    · have hb0:b = []:=by
        have:=of_decide_eq_false k
        exact List.eq_nil_of_length_eq_zero (by omega)
      subst hb0
      rw [List.append_nil] at hp s1
      exact ⟨a,⟨hp,ha⟩,s1⟩
theorem sp_SortStable20 (s:Sl) (v:Value) (A:List As) (key:Int→Int) (S:Int→Prop) (hv:CmpOk v A key S) (m:List Int) (hS:∀ x ∈ m,S x) (hb:m.length ≤ 20) :
    Sp Tryz.prog fG [sv s,v] R_ (vI s m::A) (fun _ h=>∃ m',(m'.Perm m∧Up key m')∧aP (vI s m'::A) h):=by
  intro h s0
  have hl:=(cq (j:=0) s0 rfl).1
  refine nT _ _ ?_
  unfold iG
  unfold cl
  refine qS _ _ _ ?_
  unfold kJ
  rw [hl]
  have ins:∀ (p m q:List Int) (h:Hp) (K:Unit→Hp→Prop),(∀ x ∈ m,S x)→p.length + m.length + q.length < 2 ^ 60→aP (vI s (p++(m++q))::A) h→(∀ m' h',m'.Perm m→Up key m'→aP (vI s (p++(m'++q))::A) h'→K () h') →
      cl Tryz.prog cj [sv s,.int .i64 p.length,.int .i64 (p.length + m.length:Nat),v] R_ K h:=by
    intro p m q h K h1 h2 s1 k
    refine (sp_insertion s v A key S hv p m q h1 h2 h s1).mono ?_
    rintro u h' ⟨r,e,m',⟨p1,p2⟩,s2⟩
    exact ⟨r,e,k m' h' p1 p2 s2⟩
  have tail:∀ (m':List Int) (h:Hp),m'.length = m.length→Up key m'→m'.Perm m→aP (vI s m'::A) h→Lp (dq (s) (m.length:Int) v (fun _ h'=>∃ m',(m'.Perm m∧Up key m')∧aP (vI s m'::A) h')) 20 h:=by
    intro m' h hlm hu hp s1
    refine Lp.intro (fun (i:Int) h=>i = 20∧aP (vI s m'::A) h) (fun _ _=>0) ⟨rfl,s1⟩ ?_
    rintro i h ⟨rfl,s2⟩
    unfold dq
    refine dJ (by simp; omega) ?_
    exact ⟨m',⟨hp,hu⟩,s2⟩
  refine Lp.intro (fun (z:Int × Int) h=>(z = (0,20)∧aP (vI s m::A) h)∨(z = (20,40)∧m.length = 20∧∃ m',(m'.Perm m∧Up key m')∧aP (vI s m'::A) h)) (fun (z:Int × Int) _=>(40 - z.2).toNat) (.inl ⟨rfl,s0⟩) ?_
  rintro z h (⟨rfl,s1⟩ | ⟨rfl,h20,m',⟨hp,hu⟩,s1⟩)
  · unfold fd
    refine bk (fun k=>?_) (fun k=>?_)
    · have h20:m.length = 20:=by have:=of_decide_eq_true k; omega
      have e:(20:Int) = ((([]:List Int).length + m.length:Nat):Int):=by simp [h20]
      show cl Tryz.prog cj [sv s,.int .i64 0,.int .i64 20,v] R_ _ h
      rw [e]
      refine ins [] m [] h _ hS (by simp; omega) (by simpa using s1) fun m' h' hp hu s2=>?_
      refine ⟨.inr ⟨?_,h20,m',⟨hp,hu⟩,by simpa using s2⟩,?_⟩
      · rw [← e]; rw [cf (by omega) (by omega)]; rfl
      · rw [← e]; rw [cf (by omega) (by omega)]; decide
    · have e:(m.length:Int) = ((([]:List Int).length + m.length:Nat):Int):=by simp
      show cl Tryz.prog cj [sv s,.int .i64 0,.int .i64 (m.length:Int),v] R_ _ h
      have:=ins [] m [] h (fun _=>Lp (dq s (m.length:Int) v (fun _ h'=>∃ m',(m'.Perm m∧Up key m')∧aP (vI s m'::A) h')) 20) hS (by simp; omega) (by simpa using s1) fun m' h' hp hu s2=>tail m' h' hp.length_eq hu hp (by simpa using s2)
      rw [← e] at this
      exact this
  · unfold fd
    refine dJ (by rw [h20]; rfl) ?_
    have hml:m'.length = 20:=hp.length_eq.trans h20
    have e:(m.length:Int) = ((m'.length + ([]:List Int).length:Nat):Int):=by simp [h20,hml]
    have e2:(20:Int) = (m'.length:Int):=by omega
    show cl Tryz.prog cj [sv s,.int .i64 20,.int .i64 (m.length:Int),v] R_ _ h
    have:=ins m' [] [] h (fun _=>Lp (dq s (m.length:Int) v (fun _ h'=>∃ m',(m'.Perm m∧Up key m')∧aP (vI s m'::A) h')) 20) (fun x hx=>by cases hx) (by simp; omega) (by simpa using s1) fun m2 h' hp2 hu2 s2=>by
      have:m2 = []:=hp2.eq_nil
      subst this
      exact tail m' h' hp.length_eq hu hp (by simpa using s2)
    rw [← e,← e2] at this
    exact this
end Go.Proofs.YtniiiakkdoiaiaaGreatDoor
namespace Go.Proofs.YtniiiakkdoiaiaaGreatDoor
open Go Mb
set_option linter.unusedVariables false
def hist_May_l1 (a0:Sl) (a1:aH) (K:Bool→Hp→Prop) (v12:(Option Nat)) (v13:(Option Nat)) (Rec4:(Int × Int)→Hp→Prop) (s3:Int × Int):Hp→Prop:=br (decide (s3.2 < (a0.len:Int))) ( ix a0 s3.2 fun q18=>ld (q18.1,q18.2 + Int.toNat s3.2 * 16) aM.C fun x19=>br ((!(!(fA x19 a1 s3.1))) && (decide (x19.fEffect > 0))) ( hpv Tryz.prog (Instr.lookup jo (.map v12) (.int .i64 x19.fEffect) false) aK fun (v33:Bool)=>br v33 ( K false) ( hpv Tryz.prog (Instr.lookup gR (.map v13) (.int .i64 x19.fCore) true) bW fun (v40:Int × Bool)=>br (v40.2 && ((decide (v40.1 ≤ 0)) || (decide (x19.fBegin ≤ v40.1)))) ( K false) ( hpu Tryz.prog (Instr.mapUpdate jo (.map v12) (.int .i64 x19.fEffect) (.bool true))<|hpu Tryz.prog (Instr.mapUpdate gR (.map v13) (.int .i64 x19.fCore) (.int .i64 x19.fEnd))<|Rec4 (x19.fBegin,(IntKind.i64.wrap (s3.2 + 1)))))) ( br ((!(fA x19 a1 s3.1)) || false) ( K false) ( hpv Tryz.prog (Instr.lookup gR (.map v13) (.int .i64 x19.fCore) true) bW fun (v40:Int × Bool)=>br (v40.2 && ((decide (v40.1 ≤ 0)) || (decide (x19.fBegin ≤ v40.1)))) ( K false) ( hpu Tryz.prog (Instr.mapUpdate jo (.map v12) (.int .i64 x19.fEffect) (.bool true))<|hpu Tryz.prog (Instr.mapUpdate gR (.map v13) (.int .i64 x19.fCore) (.int .i64 x19.fEnd))<|Rec4 (x19.fBegin,(IntKind.i64.wrap (s3.2 + 1))))))) ( K true)
def sh_hist_May (a0:Sl) (a1:aH) (K:Bool→Hp→Prop):Hp→Prop:=hpv Tryz.prog (Instr.makeMap jo none) R_map_int_bool fun (v12:(Option Nat))=>hpv Tryz.prog (Instr.makeMap gR none) R_map_int_int fun (v13:(Option Nat))=>Lp (hist_May_l1 a0 a1 K v12 v13) (0,0)
set_option maxRecDepth 20000 in
theorem sim_hist_May (a0:Sl) (a1:aH) {K:Bool→Hp→Prop} {h:Hp} (H:sh_hist_May a0 a1 K h):Ct Tryz.prog wM #[(sv a0),(.agg (aH.C a1).toArray)] h fun v h'=>∃ r,v = aK r∧K r h':=aD [(sv a0),(.agg (aH.C a1).toArray)] Tryz.func19 rfl rfl rfl fun _=>ah<|ac<|ak (cC (l:=(aH.C a1)) rfl rfl rfl fun b3=>aa (ag rfl) rfl<|ae<|ah<|ac<|ak (be H (x_makeMap0) rfl fun v12 _ H1=>ak (be H1 (x_makeMap0) rfl fun v13 _ H2=>aa (ag rfl) rfl<|aa (ag rfl) rfl<|aa (ag rfl) rfl<|ae<|ah<|ah<|ac<|aa (ad rfl) rfl<|aa (dB rfl Tryz.underlying39 rfl) rfl<|aa (ad rfl) rfl<|ae<|aF<|bO (step:=hist_May_l1 a0 a1 K v12 v13) (fun s3=>[(3,(.pointer (some ⟨b3,0,none⟩))),(5,(.int .i64 s3.1)),(6,(.map v12)),(7,(.map v13)),(14,(sv a0)),(15,(.int .i64 (a0.len:Int))),(16,(.int .i64 s3.2))]) (fun s3=>[bx b3 35 (aH.C a1)]) H2 (.cons rfl (.cons rfl (.cons rfl (.cons rfl (.cons rfl (.cons rfl (.cons rfl (.nil _)))))))) (.cons_cons _ .slnil) (fun Rec4 s3 _ H5=>ah<|ac<|aa (cx rfl rfl) rfl<|ae<|ah<|aC rfl H5 (fun k6 H7=>av<|ah<|aF<|ah<|ac<|cw H7 fun q18 e8 h9 H10=>aa (bD sw (aW rfl (bn e8)) rfl h9) rfl<|ak (gI H10 ag_51 rfl (fun _=>rfl) rfl fun x19 H11=>ak (aY (l:=(aM.C (⟨0,0,(⟨0,0,0,0,0⟩:ap),0,0,0,(⟨0,0⟩:al),(⟨0,0,0,0⟩:au)⟩:aM))) zero_51 rfl rfl fun b9=>ak (aZ (k:=0) (vs:=(aM.C x19)) inf_51 rfl rfl rfl rfl rfl rfl rfl<|ae<|ah<|ah<|ac<|bw (bP (k:=0) ag_51 rfl rfl rfl rfl) rfl<|bw (bP (k:=1) pw rfl rfl rfl rfl) rfl<|aa (ad rfl) rfl<|ak (cM (vs:=[(.agg (aM.C x19).toArray),(.agg (aH.C a1).toArray),(.int .i64 s3.1)]) (bG (ct_hist_one x19 a1 s3.1 _)) en_52 rfl rfl<|aa (cD rfl) rfl<|aa (ad rfl) rfl<|aj rfl rfl rfl (aS _) (fun g12=>wv (an iV rfl)) rfl<|aj rfl rfl rfl (aS _) (fun g13=>cv (bm (k:=0) bj (aJ rfl g13) rfl rfl)) rfl<|aj rfl rfl rfl (aS _) (fun g14=>wv (oQ (aJ rfl g14) rfl)) rfl<|aj rfl rfl rfl (aS _) (fun g15=>wv (ad (aJ rfl g15))) rfl<|aj rfl rfl rfl (rf _ _) (fun g16=>wv (ad rfl)) rfl<|aj rfl rfl rfl (rf _ _) (fun g17=>wv (an iV rfl)) rfl<|aj rfl rfl rfl (rf _ _) (fun g18=>cv (bm (k:=0) bj (aJ rfl g18) rfl rfl)) rfl<|cc H11 (fun k20 H21=>aL rfl rfl rfl ((gv_t (b_l k20) _).trans (congrArg Value.bool (b_r k20))) (be H21 (x_lookup (aJ rfl k20) (aJ rfl k20)) rfl fun v33 _ H22=>aL rfl rfl rfl (congrArg Value.bool (cm (b_l k20))) (aQ (wv (bd (aJ rfl (b_l k20)) (b_r k20) rfl)) rfl<|aa (ay rfl (cm (b_l k20)) rfl) rfl<|ae<|aC rfl H22 (fun k23 H24=>ah<|ac<|aa (ag rfl) rfl<|ae<|ao<|aw (az rfl (aE rfl)) ⟨false,rfl,H24⟩) (fun k23 H24=>av<|ah<|ah<|ac<|aa (ad rfl) rfl<|aa (an ta rfl) rfl<|bw (bm (k:=0) bj rfl rfl rfl) rfl<|ak (be H24 (x_lookup rfl rfl) rfl fun v40 _ H25=>aa (ad rfl) rfl<|aa (aq rfl rfl) rfl<|aa (aq rfl rfl) rfl<|aa (ag rfl) rfl<|aa (ag rfl) rfl<|ae<|ah<|ac<|aa (ad rfl) rfl<|aa (ad rfl) rfl<|aj rfl rfl rfl (aA _) (fun g26=>wv (ad rfl)) rfl<|aj rfl rfl rfl (aA _) (fun g27=>wv (v_le (aJ rfl g27) rfl)) rfl<|aj rfl rfl rfl (aA _) (fun g28=>wv (ad (aJ rfl g28))) rfl<|aj rfl rfl rfl (dZ _ _) (fun g29=>wv (an sZ rfl)) rfl<|aj rfl rfl rfl (dZ _ _) (fun g30=>cv (bm (k:=0) bj (aJ rfl g30) rfl rfl)) rfl<|aj rfl rfl rfl (dZ _ _) (fun g31=>wv (ad rfl)) rfl<|aj rfl rfl rfl (dZ _ _) (fun g32=>wv (v_le (aJ rfl g32) (aJ rfl g32))) rfl<|aj rfl rfl rfl (aA _) (fun g33=>wv (dr (aJ rfl g33) (aW rfl (wU g33)))) rfl<|aa (bU rfl rfl) rfl<|ae<|aC rfl H25 (fun k34 H35=>ah<|ac<|aa (ag rfl) rfl<|ae<|ao<|aw (az rfl (aE rfl)) ⟨false,rfl,H35⟩) (fun k34 H35=>av<|bC (n:=13) [bx b9 51 (aM.C x19)] cy rfl (.cons_cons _ (.cons _ .slnil))<|ai (i:=0) (fun _ _ _ _=>id) rfl (by kernel_rfl) rfl (ve (ad rfl))<|ai (i:=1) (fun _ _ _ _=>id) rfl (by kernel_rfl) rfl (ve (an iV rfl))<|ai (i:=2) (fun _ _ _ _=>id) rfl (by kernel_rfl) rfl (dm (k:=0) bj rfl rfl rfl)<|ai (i:=3) (fun _ _ _ _=>id) rfl (by kernel_rfl) rfl (ve (ad rfl))<|ai (i:=4) (fun _ _ _ _=>id) rfl (by kernel_rfl) rfl (ve (an ta rfl))<|ai (i:=5) (fun _ _ _ _=>id) rfl (by kernel_rfl) rfl (dm (k:=0) bj rfl rfl rfl)<|ai (i:=6) (fun _ _ _ _=>id) rfl (by kernel_rfl) rfl (ve (an sZ rfl))<|ai (i:=7) (fun _ _ _ _=>id) rfl (by kernel_rfl) rfl (dm (k:=0) bj rfl rfl rfl)<|ai (i:=8) (fun _ _ _ _=>id) rfl (by kernel_rfl) rfl (ve (an qJ rfl))<|ai (i:=9) (fun _ _ _ _=>id) rfl (by kernel_rfl) rfl (dm (k:=0) bj rfl rfl rfl)<|ai (i:=10) (fun _ _ _ _=>id) rfl (by kernel_rfl) rfl (ve (ag rfl))<|bh (i:=11) (by kernel_rfl) (aI rfl rfl (to_hpu H35 (tx rfl rfl rfl) fun _ H36=>⟨(.cons_cons _ (.cons _ .slnil)),bh (i:=12) (by kernel_rfl) (aI rfl rfl (to_hpu H36 (tx rfl rfl rfl) fun _ H37=>⟨(.cons_cons _ (.cons _ .slnil)),bf (by kernel_rfl)<|ac<|aa (bI rfl rfl) rfl<|aa (ad rfl) rfl<|ae<|cT (x19.fBegin,(IntKind.i64.wrap (s3.2 + 1))) H37 (.cons rfl (.cons rfl (.cons rfl (.cons rfl (.cons rfl (.cons rfl (.cons rfl (.nil _)))))))) (.cons _ (.cons_cons _ .slnil))⟩))⟩)))))))) (fun k20 H21=>am rfl rfl rfl ((rf _ _).trans k20) rfl<|aj rfl rfl rfl (aS _) (fun g38=>wv (ay (aJ rfl g38) (b_andr k20 g38) rfl)) rfl<|aa (dr rfl rfl) rfl<|ae<|aC rfl H21 (fun k39 H40=>ah<|ac<|aa (ag rfl) rfl<|ae<|ao<|aw (az rfl (aE rfl)) ⟨false,rfl,H40⟩) (fun k39 H40=>av<|ah<|ah<|ac<|aa (ad rfl) rfl<|aa (an ta rfl) rfl<|bw (bm (k:=0) bj rfl rfl rfl) rfl<|ak (be H40 (x_lookup rfl rfl) rfl fun v40 _ H41=>aa (ad rfl) rfl<|aa (aq rfl rfl) rfl<|aa (aq rfl rfl) rfl<|aa (ag rfl) rfl<|aa (ag rfl) rfl<|ae<|ah<|ac<|aa (ad rfl) rfl<|aa (ad rfl) rfl<|aj rfl rfl rfl (aA _) (fun g42=>wv (ad rfl)) rfl<|aj rfl rfl rfl (aA _) (fun g43=>wv (v_le (aJ rfl g43) rfl)) rfl<|aj rfl rfl rfl (aA _) (fun g44=>wv (ad (aJ rfl g44))) rfl<|aj rfl rfl rfl (dZ _ _) (fun g45=>wv (an sZ rfl)) rfl<|aj rfl rfl rfl (dZ _ _) (fun g46=>cv (bm (k:=0) bj (aJ rfl g46) rfl rfl)) rfl<|aj rfl rfl rfl (dZ _ _) (fun g47=>wv (ad rfl)) rfl<|aj rfl rfl rfl (dZ _ _) (fun g48=>wv (v_le (aJ rfl g48) (aJ rfl g48))) rfl<|aj rfl rfl rfl (aA _) (fun g49=>wv (dr (aJ rfl g49) (aW rfl (wU g49)))) rfl<|aa (bU rfl rfl) rfl<|ae<|aC rfl H41 (fun k50 H51=>ah<|ac<|aa (ag rfl) rfl<|ae<|ao<|aw (az rfl (aE rfl)) ⟨false,rfl,H51⟩) (fun k50 H51=>av<|bC (n:=13) [bx b9 51 (aM.C x19)] cy rfl (.cons_cons _ (.cons _ .slnil))<|ai (i:=0) (fun _ _ _ _=>id) rfl (by kernel_rfl) rfl (ve (ad rfl))<|ai (i:=1) (fun _ _ _ _=>id) rfl (by kernel_rfl) rfl (ve (an iV rfl))<|ai (i:=2) (fun _ _ _ _=>id) rfl (by kernel_rfl) rfl (dm (k:=0) bj rfl rfl rfl)<|ai (i:=3) (fun _ _ _ _=>id) rfl (by kernel_rfl) rfl (ve (ad rfl))<|ai (i:=4) (fun _ _ _ _=>id) rfl (by kernel_rfl) rfl (ve (an ta rfl))<|ai (i:=5) (fun _ _ _ _=>id) rfl (by kernel_rfl) rfl (dm (k:=0) bj rfl rfl rfl)<|ai (i:=6) (fun _ _ _ _=>id) rfl (by kernel_rfl) rfl (ve (an sZ rfl))<|ai (i:=7) (fun _ _ _ _=>id) rfl (by kernel_rfl) rfl (dm (k:=0) bj rfl rfl rfl)<|ai (i:=8) (fun _ _ _ _=>id) rfl (by kernel_rfl) rfl (ve (an qJ rfl))<|ai (i:=9) (fun _ _ _ _=>id) rfl (by kernel_rfl) rfl (dm (k:=0) bj rfl rfl rfl)<|ai (i:=10) (fun _ _ _ _=>id) rfl (by kernel_rfl) rfl (ve (ag rfl))<|bh (i:=11) (by kernel_rfl) (aI rfl rfl (to_hpu H51 (tx rfl rfl rfl) fun _ H52=>⟨(.cons_cons _ (.cons _ .slnil)),bh (i:=12) (by kernel_rfl) (aI rfl rfl (to_hpu H52 (tx rfl rfl rfl) fun _ H53=>⟨(.cons_cons _ (.cons _ .slnil)),bf (by kernel_rfl)<|ac<|aa (bI rfl rfl) rfl<|aa (ad rfl) rfl<|ae<|cT (x19.fBegin,(IntKind.i64.wrap (s3.2 + 1))) H53 (.cons rfl (.cons rfl (.cons rfl (.cons rfl (.cons rfl (.cons rfl (.cons rfl (.nil _)))))))) (.cons _ (.cons_cons _ .slnil))⟩))⟩))))))))))) (fun k6 H7=>bA<|ah<|ac<|aa (ag rfl) rfl<|ae<|ao<|aw (az rfl (aE rfl)) ⟨true,rfl,H7⟩)))))
def sW (a0:Sl) (a1:Value) (K:Sl→Hp→Prop) (Rec2:(Sl × Int)→Hp→Prop) (s1:Sl × Int):Hp→Prop:=br (decide (s1.2 < (a0.len:Int))) ( ix a0 s1.2 fun q13=>ld (q13.1,q13.2 + Int.toNat s1.2 * 16) aM.C fun x14=>clv Tryz.prog a1 [(.agg (aM.C x14).toArray)] aK fun r17=>br r17 ( hpv Tryz.prog (Instr.buildSlice dL 1 #[(0,(.int .i64 s1.2))]) cJ fun (v20:Sl)=>hpv Tryz.prog (Builtin.append_ #[dL,dL] dL #[(sv s1.1),(sv v20)]) cJ fun (v21:Sl)=>Rec2 (v21,(IntKind.i64.wrap (s1.2 + 1)))) ( Rec2 (s1.1,(IntKind.i64.wrap (s1.2 + 1))))) ( K s1.1)
def sh_hist_places (a0:Sl) (a1:Value) (K:Sl→Hp→Prop):Hp→Prop:=Lp (sW a0 a1 K) ((⟨none,0,0,none⟩:Sl),0)
set_option maxRecDepth 20000 in
theorem sim_hist_places (a0:Sl) (a1:Value) {K:Sl→Hp→Prop} {h:Hp} (H:sh_hist_places a0 a1 K h):Ct Tryz.prog qc #[(sv a0),a1] h fun v h'=>∃ r,v = cJ r∧K r h':=aD [(sv a0),a1] Tryz.func53 rfl rfl rfl fun _=>ah<|ac<|aa (ag rfl) rfl<|ae<|ah<|ac<|aa (ag rfl) rfl<|ae<|ah<|ah<|ac<|aa (ad rfl) rfl<|aa (dB rfl Tryz.underlying39 rfl) rfl<|aa (ad rfl) rfl<|ae<|aF<|bO (step:=sW a0 a1 K) (fun s1=>[(1,a1),(5,(sv s1.1)),(8,(sv a0)),(9,(.int .i64 (a0.len:Int))),(10,(.int .i64 s1.2))]) (fun s1=>[]) H (.cons rfl (.cons rfl (.cons rfl (.cons rfl (.cons rfl (.nil _)))))) .slnil (fun Rec2 s1 _ H3=>ah<|ac<|aa (cx rfl rfl) rfl<|ae<|ah<|aC rfl H3 (fun k4 H5=>av<|ah<|aF<|ah<|ac<|aa (ad rfl) rfl<|cw H5 fun q13 e6 h7 H8=>aa (bD sw (aW rfl (bn e6)) rfl h7) rfl<|ak (gI H8 ag_51 rfl (fun _=>rfl) rfl fun x14 H9=>ak (aY (l:=(aM.C (⟨0,0,(⟨0,0,0,0,0⟩:ap),0,0,0,(⟨0,0⟩:al),(⟨0,0,0,0⟩:au)⟩:aM))) zero_51 rfl rfl fun b7=>aa (ag rfl) rfl<|ak (aZ (k:=0) (vs:=(aM.C x14)) inf_51 rfl rfl rfl rfl rfl rfl rfl<|ae<|ah<|ac<|aa (ad rfl) rfl<|bw (bP (k:=0) ag_51 rfl rfl rfl rfl) rfl<|ak (to_clv H9 rfl rfl rfl fun r17 _ H10=>ae<|aC rfl H10 (fun k11 H12=>ac<|aa (ad rfl) rfl<|aa (ad rfl) rfl<|ak (be H12 (bJ (vs:=[(.int .i64 s1.2)]) rfl) rfl fun v20 _ H13=>ak (be H13 (dK rfl rfl) rfl fun v21 _ H14=>aa (ag rfl) rfl<|ae<|ac<|aa (bI rfl rfl) rfl<|aa (ad rfl) rfl<|ae<|cT (v21,(IntKind.i64.wrap (s1.2 + 1))) H14 (.cons rfl (.cons rfl (.cons rfl (.cons rfl (.cons rfl (.nil _)))))) (.cons _ .slnil)))) (fun k11 H12=>av<|ac<|aa (bI rfl rfl) rfl<|aa (ad rfl) rfl<|ae<|cT (s1.1,(IntKind.i64.wrap (s1.2 + 1))) H12 (.cons rfl (.cons rfl (.cons rfl (.cons rfl (.cons rfl (.nil _)))))) (.cons _ .slnil))))))) (fun k4 H5=>bA<|ah<|ac<|aa (ad rfl) rfl<|aa (ag rfl) rfl<|ae<|ao<|aw (az rfl (aE rfl)) ⟨s1.1,rfl,H5⟩))
def uX (a0:Int) (a1:Int) (c0:Nat) (K:Int→Hp→Prop):Hp→Prop:=ld (c0,0) cS fun x6=>ix x6 a0 fun q8=>ld (q8.1,q8.2 + Int.toNat a0 * 16 + 8) (cI .i64) fun x10=>ld (c0,0) cS fun x11=>ix x11 a1 fun q13=>ld (q13.1,q13.2 + Int.toNat a1 * 16 + 8) (cI .i64) fun x15=>K (fL x10 x15)
set_option maxRecDepth 20000 in
theorem sim_hist_Order_c2 (a0:Int) (a1:Int) (c0:Nat) {K:Int→Hp→Prop} {h:Hp} (H:uX a0 a1 c0 K h):Ct Tryz.prog qY #[(.int .i64 a0),(.int .i64 a1),(.pointer (some ⟨c0,0,none⟩))] h fun v h'=>∃ r,v = dO r∧K r h':=aD [(.int .i64 a0),(.int .i64 a1),(.pointer (some ⟨c0,0,none⟩))] Tryz.func58 rfl rfl rfl fun _=>ah<|ac<|aa (ag rfl) rfl<|ae<|ah<|bC (n:=12) [] cy rfl .slnil<|ai (i:=1) (fun _ _ _ _=>id) rfl (by kernel_rfl) rfl (ve (ad rfl))<|ai (i:=6) (fun _ _ _ _=>id) rfl (by kernel_rfl) rfl (ve (ad rfl))<|bR (i:=0) (fun _ _ _ _=>id) H rfl (by kernel_rfl) sc_39 rfl (fun _=>rfl) rfl fun x6 H1=>fQ H1 fun q8 e2 h3 H4=>ai (i:=2) (fun _ _ _ _=>id) rfl (by kernel_rfl) rfl (ve (bD sw (aW rfl (bn e2)) rfl h3))<|ai (i:=3) (fun _ _ _ _=>id) rfl (by kernel_rfl) rfl (ve (an iV rfl))<|bR (i:=4) (fun _ _ _ _=>id) H4 rfl (by kernel_rfl) bj rfl (fun _=>rfl) rfl fun x10 H5=>bR (i:=5) (fun _ _ _ _=>id) H5 rfl (by kernel_rfl) sc_39 rfl (fun _=>rfl) rfl fun x11 H6=>fQ H6 fun q13 e7 h8 H9=>ai (i:=7) (fun _ _ _ _=>id) rfl (by kernel_rfl) rfl (ve (bD sw (aW rfl (bn e7)) rfl h8))<|ai (i:=8) (fun _ _ _ _=>id) rfl (by kernel_rfl) rfl (ve (an iV rfl))<|bR (i:=9) (fun _ _ _ _=>id) H9 rfl (by kernel_rfl) bj rfl (fun _=>rfl) rfl fun x15 H10=>bh (i:=10) (by kernel_rfl) (aI rfl rfl (cM (vs:=[(.int .i64 x10),(.int .i64 x15)]) (bG (ct_cmp_Compare_int x10 x15 _)) en_59 rfl rfl<|⟨.slnil,ai (i:=11) (fun _ _ _ _=>id) rfl (by kernel_rfl) rfl (ve (ag rfl))<|bf (by kernel_rfl)<|ao<|aw (az rfl (aE rfl)) ⟨(fL x10 x15),rfl,H10⟩⟩))
def sh_hist_Order (a0:Sl) (K:Sl→Hp→Prop):Hp→Prop:=nw eM [sv a0] fun b1=>ld (b1,0) cS fun x4=>cl Tryz.prog qc [(sv x4),(.func (.func mV) #[] #[])] cJ fun r5=>cl Tryz.prog fG [(sv r5),(.func (.func qY) #[] #[(.pointer (some ⟨b1,0,none⟩))])] R_ fun (_:Unit)=>K r5
set_option maxRecDepth 20000 in
theorem sim_hist_Order (a0:Sl) {K:Sl→Hp→Prop} {h:Hp} (H:sh_hist_Order a0 K h):Ct Tryz.prog oH #[(sv a0)] h fun v h'=>∃ r,v = cJ r∧K r h':=aD [(sv a0)] Tryz.func26 rfl rfl rfl fun _=>ah<|ac<|ak (hH rfl rfl rfl H fun b1 _ H1=>aa (ag rfl) rfl<|ae<|ah<|ac<|ak (bg H1 sc_39 rfl (fun _=>rfl) rfl fun x4 H2=>ak (aB H2 en_53 rfl rfl fun r5 _ H3=>aa (ag rfl) rfl<|ae<|ah<|ac<|aa (ad rfl) rfl<|aa (v_func rfl rfl) rfl<|ak (aB H3 en_57 rfl rfl fun r8 _ H4=>ae<|ah<|ac<|aa (ad rfl) rfl<|aa (ag rfl) rfl<|ae<|ao<|aw (az rfl (aE rfl)) ⟨r5,rfl,H4⟩))))
def sh_hist_Over_c1 (a0:aM) (c0:Nat) (K:Bool→Hp→Prop):Hp→Prop:=ld (c0,0) (cI .i64) fun x6=>br ((decide (a0.fBegin ≤ x6)) && (!(a0.fEffect == 0))) ( ld (c0,0) (cI .i64) fun x15=>K (decide (a0.fEffect > x15))) ( K ((decide (a0.fBegin ≤ x6)) && true))
set_option maxRecDepth 20000 in
theorem sim_hist_Over_c1 (a0:aM) (c0:Nat) {K:Bool→Hp→Prop} {h:Hp} (H:sh_hist_Over_c1 a0 c0 K h):Ct Tryz.prog sS #[(.agg (aM.C a0).toArray),(.pointer (some ⟨c0,0,none⟩))] h fun v h'=>∃ r,v = aK r∧K r h':=aD [(.agg (aM.C a0).toArray),(.pointer (some ⟨c0,0,none⟩))] Tryz.func54 rfl rfl rfl fun _=>ah<|ac<|ak (cC (l:=(aM.C a0)) rfl rfl rfl fun b2=>aa (ag rfl) rfl<|ae<|ah<|ac<|aa (an sZ rfl) rfl<|bw (bm (k:=0) bj rfl rfl rfl) rfl<|ak (bg H bj rfl (fun _=>rfl) rfl fun x6 H1=>aa (v_le rfl rfl) rfl<|aa (ad rfl) rfl<|aj rfl rfl rfl (aA _) (fun g2=>wv (an iV rfl)) rfl<|aj rfl rfl rfl (aA _) (fun g3=>cv (bm (k:=0) bj (aJ rfl g3) rfl rfl)) rfl<|aj rfl rfl rfl (aA _) (fun g4=>wv (bV (aJ rfl g4) rfl)) rfl<|aj rfl rfl rfl (aA _) (fun g5=>wv (ad (aJ rfl g5))) rfl<|aj rfl rfl rfl (dZ _ _) (fun g6=>wv (an iV rfl)) rfl<|aj rfl rfl rfl (dZ _ _) (fun g7=>cv (bm (k:=0) bj (aJ rfl g7) rfl rfl)) rfl<|cc H1 (fun k9 H10=>aL rfl rfl rfl ((gv_t (b_l k9) _).trans (congrArg Value.bool (cm (b_r k9)))) (bg H10 bj rfl (fun _=>rfl) rfl fun x15 H11=>aL rfl rfl rfl ((gv_t (b_l k9) _).trans (congrArg Value.bool (cm (b_r k9)))) (aQ (wv (oQ (aJ rfl k9) rfl)) rfl<|aL rfl rfl rfl (congrArg Value.bool (b_l k9)) (aQ (wv (ay (aJ rfl (b_l k9)) (cm (b_r k9)) rfl)) rfl<|aa (bd rfl (b_l k9) rfl) rfl<|aa (ag rfl) rfl<|ae<|ao<|aw (az rfl (aE rfl)) ⟨(decide (a0.fEffect > x15)),rfl,H11⟩)))) (fun k9 H10=>am rfl rfl rfl ((dZ _ _).trans k9) rfl<|am rfl rfl rfl ((dZ _ _).trans k9) rfl<|aj rfl rfl rfl (aA _) (fun g12=>wv (bd (aJ rfl g12) (bN (b_andr k9 g12)) rfl)) rfl<|aa (bU rfl rfl) rfl<|aa (ag rfl) rfl<|ae<|ao<|aw (az rfl (aE rfl)) ⟨((decide (a0.fBegin ≤ x6)) && true),rfl,H10⟩)))
def sh_hist_Over (a0:Sl) (a1:Int) (K:Sl→Hp→Prop):Hp→Prop:=nw kH [.int .i64 a1] fun b3=>cl Tryz.prog qc [(sv a0),(.func (.func sS) #[] #[(.pointer (some ⟨b3,0,none⟩))])] cJ fun r7=>K r7
set_option maxRecDepth 20000 in
theorem sim_hist_Over (a0:Sl) (a1:Int) {K:Sl→Hp→Prop} {h:Hp} (H:sh_hist_Over a0 a1 K h):Ct Tryz.prog n_hist_Over #[(sv a0),(.int .i64 a1)] h fun v h'=>∃ r,v = cJ r∧K r h':=aD [(sv a0),(.int .i64 a1)] Tryz.func21 rfl rfl rfl fun _=>ah<|ac<|ak (hH rfl rfl rfl H fun b3 _ H1=>aa (ag rfl) rfl<|ae<|ah<|ac<|aa (ad rfl) rfl<|aa (v_func rfl rfl) rfl<|ak (aB H1 en_53 rfl rfl fun r7 _ H2=>aa (ag rfl) rfl<|ae<|ao<|aw (az rfl (aE rfl)) ⟨r7,rfl,H2⟩))
end Go.Proofs.YtniiiakkdoiaiaaGreatDoor
