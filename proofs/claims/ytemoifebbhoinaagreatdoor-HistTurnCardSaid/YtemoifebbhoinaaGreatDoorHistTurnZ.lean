/- The law HistTurn returns true for every input, and leaves its arguments as they were. -/
import Derived.Test.YtemoifebbhoinaaGreatDoorHistTurn18
import Derived.Test.YtemoifebbhoinaaGreatDoorCards
import Derived.Test.YtemoifebbhoinaaGreatDoorTie
set_option linter.all false
set_option maxRecDepth 20000
namespace Go.Proofs.YtemoifebbhoinaaGreatDoor
open Go Mb
variable {ET:Nat} {EF:Nat × Nat}
theorem mod_in2 (x:Int) {n:Int} (h:1 ≤ n∧n < 2 ^ 40):0 ≤ (IntKind.i64.wrap (x.tmod n + n)).tmod n∧(IntKind.i64.wrap (x.tmod n + n)).tmod n < n:=by
  have h1:=Int.tmod_lt_of_pos x (show (0:Int) < n by omega)
  have h2:-n < x.tmod n:=by
    have:=Int.tmod_lt_of_pos (-x) (show (0:Int) < n by omega)
    rw [Int.neg_tmod] at this
    omega
  rw [bP (by omega) (by omega)]
  exact ⟨Int.tmod_nonneg _ (by omega),Int.tmod_lt_of_pos _ (by omega)⟩
theorem sp_HistTurn (z:eH) (s:Sl) (ps:List ri) (at_ which v:Int) (hf:∀ p ∈ ps,Cw p.fCall):Sp Tryz.prog nj [.agg z.C.toArray,sv s,.int .i64 at_,.int .i64 which,.int .i64 v] aA [etB ET EF,vK s ps] (fun r=>pa_ (r = true) [etB ET EF,vK s ps]):=by
  intro h st
  refine sV _ _ _ _ _ ?_
  unfold mG
  refine bR (i:=0) sp_begun16 rfl st fun r h1 hr s1=>?_
  subst hr
  refine dI rfl ?_
  refine bR (i:=1) (sp_Cut s ps 120 (by decide) (by decide)) rfl s1 fun y h2 hback s2=>?_
  have e120:(120:Int).toNat = 120:=rfl
  rw [e120] at hback
  rw [e120] at s2
  have hlen:(ps.take 120).length ≤ 120:=by rw [List.length_take]; exact Nat.min_le_left _ _
  have hfq:∀ p ∈ ps.take 120,Cw p.fCall:=fun p hp=>hf p (List.mem_of_mem_take hp)
  generalize ps.take 120 = qs at hback s2 hlen hfq
  have s2:aF [etB ET EF,vK y qs] h2:=s2
  have hl:=(ce (j:=1) s2 rfl).1
  obtain ⟨hs,_,_,_,_⟩:=size_in z
  generalize hwz:bK z = w at hs ⊢
  refine mC (sp_kern_New w hs) s2 fun x h3 s3=>?_
  have fin:∀ {r:Bool} {h':Hp},r = true→aF [etB ET EF,vK y qs] h'→pa_ (r = true) [etB ET EF,vK s ps] h':=fun hr s'=>aZ hr (star_imp (i:=1) rfl hback s')
  refine Lp.intro (fun (i:Int) h=>∃ (n:Nat) (k:KK),i = n∧n ≤ qs.length∧Behind w n k∧aF [de x k,etB ET EF,vK y qs] h) (fun (i:Int) _=>qs.length - i.toNat) ⟨0,_,rfl,Nat.zero_le _,behind_new hs,s3⟩ ?_
  rintro i h4 ⟨n,k,rfl,hn,B,s4⟩
  have hk:k.now < 2 ^ 30:=by have:=B.now; omega
  unfold iQ
  refine aY (fun c=>?_) (fun c=>?_)
  · have hlt:n < qs.length:=by rw [hl] at c; simpa using c
    have hw:IntKind.i64.wrap ((n:Int) + 1) = ((n + 1:Nat):Int):=by rw [bP (by omega) (by omega)]; rfl
    refine du s4 (j:=2) rfl (by omega) (by omega) fun q hq=>?_
    refine dU (j:=2) (i:=n) (k:=0) qs[n] pick_len s4 rfl hq rfl (aD hlt) (by simp) ?_
    refine bR (i:=0) (sp_Do x k qs[n] (by omega)) rfl s4 fun r h5 hr s5=>?_
    rw [hw]
    exact ⟨⟨n + 1,_,rfl,hlt,B.pick (by omega) (hfq _ (List.getElem_mem hlt)),s5⟩,by simp; omega⟩
  · refine xH (i:=0) (sS x k (by omega)) rfl s4 fun u h6 s6=>?_
    have hev:k.events.length ≤ 120:=by have:=B.lens; omega
    have hmay:=B.ie.ev.may
    rw [B.s] at hmay
    have s6:aF [vE u k.events,etB ET EF,vK y qs] h6:=bc [0] (bZ (l:=[_]) (bc [1] s6 rfl)) rfl
    generalize k.events = es at hev hmay s6
    have hul:=(ce (j:=0) s6 rfl).1
    rw [hwz]
    refine bR (i:=0) (ua u es w (by omega)) rfl s6 fun r h7 hr s7=>?_
    rw [hmay] at hr
    subst hr
    have s7:aF [vE u es,etB ET EF,vK y qs] h7:=s7
    refine aY (fun d=>?_) (fun d=>?_)
    · exact fin (by simpa using d) (bZ (l:=[_]) s7)
    · have hz:u.len ≠ 0:=by simpa using d
      have hz':((u.len:Int) == 0) = false:=by simpa using hz
      refine ⟨by omega,?_⟩
      have m1:=mod_in2 at_ (n:=(u.len:Int)) (by omega)
      obtain ⟨a,ha⟩:∃ a:Nat,(IntKind.i64.wrap (at_.tmod (u.len:Int) + (u.len:Int))).tmod (u.len:Int) = a:=⟨((IntKind.i64.wrap (at_.tmod (u.len:Int) + (u.len:Int))).tmod (u.len:Int)).toNat,by omega⟩
      rw [ha] at m1 ⊢
      have hal:a < es.length:=by omega
      have out:∀ (e':bq) (h':Hp),aF [vE u (es.set a e'),etB ET EF,vK y qs] h'→cC z (fun r=>pa_ (r = true) [etB ET EF,vK s ps]) u () h':=by
        intro e' h8 s8
        unfold cC
        rw [hwz]
        have hb:(es.set a e').length < 2 ^ 38:=by rw [List.length_set]; omega
        refine bR (i:=0) (ua u _ w hb) rfl s8 fun r1 h9 hr1 s9=>?_
        refine bR (i:=0) (sp_ref2_May u _ w hb) rfl s9 fun r2 h10 hr2 s10=>?_
        subst hr1
        subst hr2
        exact fin (by simp) (bZ (l:=[_]) s10)
      refine du s7 (j:=0) rfl (by omega) (by omega) fun q hq=>?_
      have stx:∀ (o:Nat) (y':bq),y'.C = wr (es[a].C) o [.int .i64 v]→o + 1 ≤ 16→Mb.st (q.1,q.2 + Int.toNat (a:Int) * 16 + o) [.int .i64 v] (cC z (fun r=>pa_ (r = true) [etB ET EF,vK s ps]) u ()) h7:=by
        intro o y' hy ho
        exact st_v (j:=0) (i:=a) (k:=o) y' iF s7 rfl hq rfl (aD hal) ho hy fun h' s'=>out y' h' s'
      refine aY (fun _=>stx 7 { es[a] with fBegin:=v } rfl (by decide)) (fun _=>?_)
      refine aY (fun _=>stx 8 { es[a] with fEffect:=v } rfl (by decide)) (fun _=>?_)
      refine aY (fun _=>stx 9 { es[a] with fEnd:=v } rfl (by decide)) (fun _=>?_)
      refine aY (fun _=>stx 0 { es[a] with fCore:=v } rfl (by decide)) (fun _=>?_)
      exact stx 1 { es[a] with fEnv:=v } rfl (by decide)
end Go.Proofs.YtemoifebbhoinaaGreatDoor
namespace Go.Proofs.YtemoifebbhoinaaGreatDoor
open Go Mb Go.ChangeShapes Go.WideShapes Go.RowKit
theorem decHistTurn25 (cs:List Value) (h:rj [.i .i64,.i .i64,.i .i64] cs):∃ x:{x:au // rj [.i .i64,.i .i64,.i .i64] (au.C x)},au.C x.1 = cs:=by
  have h0:=h
  obtain ⟨a0,r0,rfl,_,h⟩:=wi h
  obtain ⟨a1,r1,rfl,_,h⟩:=wi h
  obtain ⟨a2,r2,rfl,_,h⟩:=wi h
  obtain rfl:=fit_nil h
  exact ⟨⟨⟨a0,a1,a2⟩,h0⟩,rfl⟩
theorem decHistTurn51 (cs:List Value) (h:rj [.i .i64,.i .i64,.i .i64,.i .u64,.i .u64,.i .u64,.i .u64,.i .u64,.i .i64,.i .i64] cs):∃ x:{x:ci // rj [.i .i64,.i .i64,.i .i64,.i .u64,.i .u64,.i .u64,.i .u64,.i .u64,.i .i64,.i .i64] (ci.C x)},ci.C x.1 = cs:=by
  have h0:=h
  obtain ⟨a0,r0,rfl,_,h⟩:=wi h
  obtain ⟨a1,r1,rfl,_,h⟩:=wi h
  obtain ⟨a2,r2,rfl,_,h⟩:=wi h
  obtain ⟨a3,r3,rfl,_,h⟩:=wi h
  obtain ⟨a4,r4,rfl,_,h⟩:=wi h
  obtain ⟨a5,r5,rfl,_,h⟩:=wi h
  obtain ⟨a6,r6,rfl,_,h⟩:=wi h
  obtain ⟨a7,r7,rfl,_,h⟩:=wi h
  obtain ⟨a8,r8,rfl,_,h⟩:=wi h
  obtain ⟨a9,r9,rfl,_,h⟩:=wi h
  obtain rfl:=fit_nil h
  exact ⟨⟨⟨a0,a1,a2,⟨a3,a4,a5,a6,a7⟩,a8,a9⟩,h0⟩,rfl⟩
set_option maxRecDepth 100000 in
theorem lifted_4 (os:Os) (started:os.Started) (H:Type) (enc:TypeId × Value→H) :
    ReturnsInHanded {} Tryz.checked os 4 .any (fun w args=>(Rows.histTurnSpec.pre enc Tryz.prog Tryz.f4 [] false w args∧laidMetH Tryz.prog laid w)∧sizedMet enc Tryz.prog Tryz.f4 (OpenSpec.ofChange Rows.histTurnSpec) false w args)
      (Rows.histTurnSpec.post enc Tryz.prog Tryz.f4 false true false false):=by
  refine returnsInHanded_of_change_and (C:=Tryz.checked) (X:=fun w _=>laidMetH Tryz.prog laid w) (fun _ _ _ hh h=>h.of_heap hh) Tryz.own started (by kernel_rfl) Tryz.func4
    (ChangeSpec.witness_at (enc:=enc) (C:=Tryz.checked) (os:=os) (X:=fun w _=>laidMetH Tryz.prog laid w) false (laidWorld os) #[.agg #[.int .i64 0,.int .i64 0,.int .i64 0],.slice none 0 0,.int .i64 0,.int .i64 0,.int .i64 0] 8 rfl (by kernel_rfl) (by kernel_rfl) (by kernel_rfl) (by kernel_rfl) (by kernel_rfl) (laidWorld_met os _)) ?_
  intro W base args ds gs before hval0 hW _ _ hL _
  have hval:∀ (j:Nat) t v,Tryz.f4.params[j]? = some t→args[j]? = some v→Value.okWide Tryz.prog W .any base t v:=hval0
  have hW':=hW
  obtain ⟨p,q,hA0,hV0,rfl,hfz,hnd⟩:=hW
  have hA:DataW.TrodAll enc Tryz.prog W 0 (fun _=>true) true Tryz.f4.params.toList args.toList ds p:=hA0
  have hV:DataW.TrodVars enc Tryz.prog W (fun _=>true) [] gs q:=hV0
  rw [Tryz.params4] at hA hval
  have hst:=hA
  obtain ⟨T,F,hb⟩:=block_of_laid hL
  obtain ⟨rfl,rfl⟩:gs = []∧q = []:=by
    cases gs with
    | nil=>exact ⟨rfl,hV⟩
    | cons g r=>exact absurd hV (by intro h; cases h)
  obtain ⟨v0,w0,d0,e0,p0,q0,hx0,rfl,rfl,h0,hA0⟩:=trodAll_cons hA
  obtain ⟨v1,w1,d1,e1,p1,q1,hx1,rfl,rfl,h1,hA1⟩:=trodAll_cons hA0
  obtain ⟨v2,w2,d2,e2,p2,q2,hx2,rfl,rfl,h2,hA2⟩:=trodAll_cons hA1
  obtain ⟨v3,w3,d3,e3,p3,q3,hx3,rfl,rfl,h3,hA3⟩:=trodAll_cons hA2
  obtain ⟨v4,w4,d4,e4,p4,q4,hx4,rfl,rfl,h4,hA4⟩:=trodAll_cons hA3
  obtain ⟨hy,rfl,rfl⟩:=trodAll_nil hA4
  subst hy
  subst hx4
  subst hx3
  subst hx2
  subst hx1
  obtain rfl:args = #[v0,v1,v2,v3,v4]:=by apply Array.ext'; exact hx0
  obtain ⟨c0,rfl,hc0⟩:=open_struct (ks:=[.i .i64,.i .i64,.i .i64]) Tryz.underlying25 (by kernel_rfl) (hval 0 25 v0 rfl rfl) h0
  obtain ⟨⟨z0,hf0⟩,rfl⟩:=decHistTurn25 _ hc0
  obtain ⟨s1,ys1,rfl,A1⟩:=open_arg (m:=10) (ks:=[.i .i64,.i .i64,.i .i64,.i .u64,.i .u64,.i .u64,.i .u64,.i .u64,.i .i64,.i .i64]) (enc':=fun x:{x:ci // rj [.i .i64,.i .i64,.i .i64,.i .u64,.i .u64,.i .u64,.i .u64,.i .u64,.i .i64,.i .i64] (ci.C x)}=>ci.C x.1) Tryz.underlying45 (by kernel_rfl) (by kernel_rfl) (by decide) decHistTurn51 (hval 1 45 v1 rfl rfl) h1 (fun b o hb=>hfz b o (by simp [hb])) hb no_iface
  obtain ⟨A1,hf1⟩:=A1.sub
  generalize ys1.map (·.1) = xs1 at A1 hf1
  obtain ⟨n2,rfl,rfl,rfl,hw2⟩:=open_int Tryz.underlying3 (hval 2 3 v2 rfl rfl) h2
  obtain ⟨n3,rfl,rfl,rfl,hw3⟩:=open_int Tryz.underlying3 (hval 3 3 v3 rfl rfl) h3
  obtain ⟨n4,rfl,rfl,rfl,hw4⟩:=open_int Tryz.underlying3 (hval 4 3 v4 rfl rfl) h4
  refine (run_spV A1 (ET:=T) (EF:=F) (sp_HistTurn z0 s1 xs1 n2 n3 n4 (fun p hp=>cw_of (hf1 p hp))) hb).mono fun e W' ⟨he,hk⟩=>?_
  subst he
  refine ⟨_,rfl,_,_,_,[],(p0++(p1++(([]:List MemPlace)++(([]:List MemPlace)++(([]:List MemPlace)++[]))))),[],hW',?_,?_,?_,keptBut_same hk.os hk.out hk.heap,fun h=>by cases h⟩
  · exact trodAll_mk1 (shut_bool Tryz.underlying4 true)
  · exact same_post (by kernel_rfl) (by kernel_rfl) hst (fun p hp=>hW'.lt p (List.mem_append_left _ hp)) hk (fun p hp=>by simpa using hW'.lt p (List.mem_append_left _ hp))
  · rfl
end Go.Proofs.YtemoifebbhoinaaGreatDoor
namespace Go.Proofs.YtemoifebbhoinaaGreatDoor
open Go Mb Go.ChangeShapes Go.WideShapes Go.RowKit
theorem jf0:Tryz.pinned.checked.prog.funcNamed Rows.histTurnRow.func = some 4:=by kernel_rfl
theorem jf1:(Rows.histTurnRow.wf (OpenSpec.ofChange Rows.histTurnSpec) && laidOutB Tryz.pinned.checked.prog && mapsRowed Tryz.pinned.checked.prog) = true:=by kernel_rfl
theorem jf2:(Tryz.f4.params.all (Tryz.pinned.checked.prog.readableRec ·) && namedTie Tryz.pinned.checked.prog Rows.histTurnRow.named Rows.histTurnSpec.vars && (Rows.histTurnRow.stops == []) && (Tryz.pinned.checked.prog.stops == []) && (Rows.histTurnRow.knobs == []) && (Tryz.pinned.checked.prog.stopKnobs == [])) = true:=by kernel_rfl
theorem jf3:(Rows.histTurnRow.inPlace == Tryz.pinned.checked.prog.inPlace 4) = true:=by kernel_rfl
theorem jf4:(Rows.histTurnRow.unfollowed == Tryz.pinned.checked.prog.unfollowed 4) = true:=by kernel_rfl
theorem jf5:(Rows.histTurnRow.recurses == Tryz.pinned.checked.prog.recurses 4) = true:=by kernel_rfl
theorem jf6:(Rows.histTurnRow.named == Tryz.pinned.checked.prog.varsNamed 4) = true:=by kernel_rfl
theorem jf7:((Rows.histTurnRow.maps == (Tryz.f4.params.toList++Rows.histTurnSpec.plain.varTypes Tryz.pinned.checked.prog).any (Tryz.pinned.checked.prog.mapsRec ·)) && (Rows.histTurnRow.ifaces == (Tryz.f4.params.toList++Rows.histTurnSpec.plain.varTypes Tryz.pinned.checked.prog).any (Tryz.pinned.checked.prog.ifacesRec ·)) && (Rows.histTurnRow.mapsOut == Tryz.pinned.checked.prog.mapsAmong Tryz.f4.resultTypes.toList) &&
  (Rows.histTurnRow.loops == (Tryz.f4.params.toList++Rows.histTurnSpec.plain.varTypes Tryz.pinned.checked.prog).any (Tryz.pinned.checked.prog.loopsFrom ·)) && (Rows.histTurnRow.wideKeys == (Tryz.f4.params.toList++Rows.histTurnSpec.plain.varTypes Tryz.pinned.checked.prog++Tryz.f4.resultTypes.toList).any (Tryz.pinned.checked.prog.wideKeysFrom ·)) &&
  Rows.histTurnSpec.vars.all (Tryz.pinned.checked.prog.varReadable ·) && Tryz.f4.resultTypes.all (fun t=>Tryz.pinned.checked.prog.readableRec t && decide (t < Tryz.pinned.checked.prog.types.size)) && (Rows.histTurnRow.ifacesOut == Tryz.f4.resultTypes.toList.any (Tryz.pinned.checked.prog.ifacesRec ·)) && (Rows.histTurnRow.loopsOut == Tryz.f4.resultTypes.toList.any (Tryz.pinned.checked.prog.loopsFrom ·))) = true:=by kernel_rfl
theorem jf8:(Rows.histTurnRow.plainKeys == Tryz.pinned.checked.prog.plainKeys) = true:=by kernel_rfl
theorem jf9:(Rows.histTurnRow.shortTexts.isNone && Tryz.pinned.checked.prog.stopsHeard && Tryz.pinned.checked.prog.mayEnter && (Rows.histTurnRow.lifted == Tryz.pinned.checked.prog.liftsFinal) && (Tryz.pinned.checked.prog.make == some Rows.histTurnRow.make) && kindsB Tryz.pinned.checked.prog Tryz.f4 Rows.histTurnRow && (Rows.histTurnRow.pinned == Rows.histTurnRow.pinnedBy) &&
  (Rows.histTurnRow.veiled == (Tryz.f4.params.toList++Rows.histTurnSpec.plain.varTypes Tryz.pinned.checked.prog++Tryz.f4.resultTypes.toList).any (Tryz.pinned.checked.prog.veiledRec ·)) && Rows.histTurnRow.veiledFits Tryz.pinned.checked.prog Tryz.f4.params.toList (Tryz.f4.params.toList++Rows.histTurnSpec.plain.varTypes Tryz.pinned.checked.prog++Tryz.f4.resultTypes.toList)) = true:=by kernel_rfl
theorem said_4:Rows.HistTurnSaid :=
  OpenClaim.holds_of_wide 4 Tryz.f4 rfl rfl rfl rfl rfl rfl rfl ⟨rfl,rfl,rfl,rfl,rfl⟩ rfl rfl rfl rfl rfl jf0 Tryz.func4 (joined_split jf1 jf2 jf3 jf4 jf5 jf6 jf7 jf8 jf9)
    (of_decide_eq_true (by kernel_rfl)) (by unfold Func.isWrapper; rw [if_neg (of_decide_eq_false (by kernel_rfl))]; exact ⟨rfl,rfl⟩)
    (fun os started H enc _=>lifted_4 os started H enc)
theorem histTurn_holds:Rows.HistTurnCardSaid :=
  Claim7.holds_tied_plain_at .later [] [.handle] true (true, "a63c83af46769ae5b2e0de3169bc55eed442217913052e397606a55bd0c0baed") true
    said_4 (fun _ h=>by cases h) (by kernel_rfl) (fun _ h=>by cases h) histTurn_row_tie rfl ⟨rfl,rfl⟩ (by kernel_rfl) rfl
    (fun f fn hf hfn=>by
      obtain rfl:f = 4:=Option.some.inj ((show Tryz.prog.funcNamed "messuage/messuagelaw16.HistTurn" = some 4 by kernel_rfl).symm.trans hf) |>.symm
      obtain rfl:fn = Tryz.f4:=(Option.some.inj (Tryz.func4.symm.trans hfn)).symm
      exact ⟨by kernel_rfl,fun j t ht=>by
        rw [Tryz.params4] at ht
        exact want_all (by kernel_rfl) (j:=j) (t:=t) ht⟩)
    (by kernel_rfl)
end Go.Proofs.YtemoifebbhoinaaGreatDoor
