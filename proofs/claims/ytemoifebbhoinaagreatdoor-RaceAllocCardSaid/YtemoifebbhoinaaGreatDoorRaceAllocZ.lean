/- The law RaceAlloc returns true for every input, and leaves its arguments as they were. -/
import Derived.Test.YtemoifebbhoinaaGreatDoorRaceAlloc16
import Derived.Test.YtemoifebbhoinaaGreatDoorCards
import Derived.Test.YtemoifebbhoinaaGreatDoorTie
set_option linter.all false
set_option maxRecDepth 20000
namespace Go.Proofs.YtemoifebbhoinaaGreatDoor
open Go.Proofs.Tryz
section
open Go Mb Go.ChangeShapes Go.WideShapes Go.RowKit
theorem no_iface (k:FK):¬ FK.ok k (rtV gx):=by
 cases k with
 | i k=>rintro ⟨n,h,_⟩; cases h
 | b=>rintro ⟨x,h⟩; cases h
theorem fit_cons {k:FK} {ks:List FK} {cs:List Value} (h:tM (k::ks) cs):∃ v vs,cs = v::vs/\k.ok v/\tM ks vs:=by
 cases cs with
 | nil=>exact h.elim
 | cons v vs=>exact ⟨v,vs,rfl,h.1,h.2⟩
theorem fit_i {k:IntKind} {ks:List FK} {cs:List Value} (h:tM (.i k::ks) cs):∃ (n:Int) (vs:List Value),cs = .int k n::vs/\(Lit.int k n).wf = true/\tM ks vs:=by
 obtain ⟨v,vs,rfl,⟨n,rfl,hw⟩,hf⟩:=fit_cons h
 exact ⟨n,vs,rfl,hw,hf⟩
theorem fit_nil {cs:List Value} (h:tM [] cs):cs = []:=by
 cases cs with
 | nil=>rfl
 | cons v vs=>exact h.elim
theorem Arg.sub {τ:Type} {P:τ->Prop} {W:World} {m:Nat} {C:τ->List Value} {s:Sl} {xs:List {x:τ // P x}} (A:Arg W m (fun x=>C x.1) s xs):Arg W m C s (xs.map (·.1))/\∀ x ∈ xs.map (·.1),P x:=by
 refine ⟨⟨by simpa using A.len,A.cap,?_⟩,fun x hx=>?_⟩
 ·have e:(xs.map (·.1)).flatMap C = xs.flatMap (fun x=>C x.1):=by rw [List.flatMap_map]
  rw [e]; exact A.row
 ·obtain ⟨y,_,rfl⟩:=List.mem_map.1 hx
  exact y.2
structure Same (W W':World):Prop where
 os:W'.os = W.os
 out:W'.output = W.output
 heap:∀ i,i < W.heap.size->W'.heap[i]? = W.heap[i]?
theorem Same.cell {W W':World} (s:Same W W') {p:MemPlace} (h:p.block < W.heap.size):W.sameAt W' p:=by
 cases p with
 | cell b off =>
  show W'.cell? _ = W.cell? _
  unfold World.cell?
  rw [s.heap b h]
 | map b=>exact s.heap b h
theorem run_spV {τ:Type} {T m:Nat} {enc:τ->List Value} {s:Sl} {xs:List τ} {f:FuncId} {vs:List Value} {ET:Nat} {EF:Nat × Nat} {W:World} (A:Arg W m enc s xs)
  (c:Sp prog f vs aC [etB ET EF,vec T m enc s xs] (fun r=>pa_ (r = true) [etB ET EF,vec T m enc s xs])) (hw:W.heap[0]? = some (.cells #[rtV gx] ET EF)) :
  Calls prog f vs.toArray W fun e W'=>e = .returned (.bool true)/\Same W W':=by
 have key:∀ (g:Hp),g 0 = none->(∀ b o,g b = some o->W.heap[b]? = some o)->vec T m enc s xs g->(∀ g',vec T m enc s xs g'->∀ b o,g b = some o->g' b = some o) ->
   Calls prog f vs.toArray W fun e W'=>e = .returned (.bool true)/\Same W W':=by
  intro g g0 gW gv gk
  have hs:Sub (un (dV emp 0 (.cells #[rtV gx] ET EF)) g) W:=by
   intro b o ho
   by_cases hb:b = 0
   ·subst hb; rw [un_left (iF _ _ _)] at ho; rw [hw]; exact ho
   ·rw [un_right (qi _ _ _ hb)] at ho; exact gW b o ho
  have hd:Dj (dV emp 0 (.cells #[rtV gx] ET EF)) g:=fun b=>by
   by_cases hb:b = 0
   ·subst hb; exact .inr g0
   ·exact .inl (qi _ _ _ hb)
  have hst:aF [etB ET EF,vec T m enc s xs] (un (dV emp 0 (.cells #[rtV gx] ET EF)) g):=⟨_,_,hd,rfl,iF _ _ _,ww gv⟩
  refine (c _ hst W hs).mono ?_
  rintro e W' ⟨v,h',rfl,⟨r,rfl,q⟩,s',fr⟩
  obtain ⟨rfl,q⟩:=q
  obtain ⟨g1,a1,sub1⟩:=dH (i:=0) (A:=etB ET EF) rfl q
  obtain ⟨g2,a2,sub2⟩:=dH (i:=1) (A:=vec T m enc s xs) rfl q
  refine ⟨rfl,fr.os,fr.out,fun i hi=>?_⟩
  rcases Nat.eq_zero_or_pos i with rfl | hp
  ·rw [s' _ _ (sub1 _ _ a1),hw]
  ·cases hg:g i with
   | none=>exact fr.same i hi (tQ.2 ⟨qi _ _ _ (by omega),hg⟩)
   | some o=>rw [s' _ _ (sub2 _ _ (gk g2 a2 i o hg)),gW i o hg]
 rcases A.row with h0 | ⟨b,pre,rest,U,fr,h1,h2,h3,h4,h5,h6⟩
 ·exact key emp rfl (fun b o h=>by cases h) ⟨A.len,A.cap,.inl h0⟩ (fun _ _ b o h=>by cases h)
 ·by_cases h0:s.cap = 0
  ·exact key emp rfl (fun b o h=>by cases h) ⟨A.len,A.cap,.inl h0⟩ (fun _ _ b o h=>by cases h)
  ·refine key (dV emp b (.cells (pre++(xs.flatMap enc++rest)).toArray U fr)) (qi _ _ _ (Ne.symm h5)) ?_ ⟨A.len,A.cap,.inr ⟨b,pre,rest,U,fr,h1,h2,?_,iF _ _ _⟩⟩ ?_
   ·intro b' o ho
    unfold dV at ho
    split at ho
    ·rename_i hb; subst hb; rw [h6]; exact ho
    ·cases ho
   ·unfold gh; rw [h3]; exact ⟨rfl,h4⟩
   ·rintro g' ⟨_,_,r⟩ b' o ho
    rcases r with r | ⟨c',pre',rest',U',fr',r1,_,r3,r4⟩
    ·exact absurd r h0
    ·rw [h1] at r1
     unfold gh at r3
     rw [h3] at r3
     obtain ⟨r5,_⟩:=r3
     simp only [Prod.mk.injEq] at r5
     obtain ⟨rfl,rfl,rfl,rfl⟩:=r5
     simp only [Option.some.injEq,Prod.mk.injEq] at r1
     obtain ⟨rfl,_⟩:=r1
     unfold dV at ho
     split at ho
     ·rename_i hb; subst hb; cases ho; exact r4
     ·cases ho
theorem same_post {H:Type} {enc:TypeId × Value->H} {W W':World} {ts:List TypeId} {vs:List Value} {ds:List (DataW H)} {ps:List MemPlace} {sp:Nat->Bool} (hl:laidOutB prog = true) (hr:(ts.all fun t=>prog.readableRec t && decide (t < prog.types.size)) = true)
  (h:DataW.TrodAll enc prog W 0 (fun _=>true) true ts vs ds ps) (hlt:∀ p ∈ ps,p.block < W.heap.size) (s:Same W W') (hs:∀ p ∈ ps,sp p.block = true):DataW.TrodAll enc prog W' 0 sp true ts vs ds ps :=
 trodAll_stays hl (fun t ht=>by
  have:=List.all_eq_true.1 hr t ht
  simp only [Bool.and_eq_true,decide_eq_true_eq] at this
  exact this) h (fun p hp=>s.cell (hlt p hp)) hs
theorem want_all {ts:List TypeId} (h:(ts.all fun t=>!(prog.wantsStandIn t)) = true) {j:Nat} {t:TypeId} (ht:ts.toArray[j]? = some t):prog.wantsStandIn t = false:=by
 have:=List.all_eq_true.1 h t (List.mem_of_getElem? (by simpa using ht))
 simpa using this
end
section
open Go Mb Go.ChangeShapes Go.WideShapes Go.RowKit
theorem decRaceAlloc3 (cs:List Value) (h:tM [.i .i64] cs):∃ x:{x:Int // tM [.i .i64] ((cI .i64) x)},(cI .i64) x.1 = cs:=by
 have h0:=h
 obtain ⟨a0,r0,rfl,_,h⟩:=fit_i h
 obtain rfl:=fit_nil h
 exact ⟨⟨a0,h0⟩,rfl⟩
set_option maxRecDepth 100000 in
theorem lifted_5 (os:Os) (started:os.Started) (H:Type) (enc:TypeId × Value->H) :
  ReturnsInHanded {} Tryz.checked os 5 .any (fun w args=>(Rows.raceAllocSpec.pre enc prog Tryz.f5 [] false w args/\laidMetH prog laid w)/\sizedMet enc prog Tryz.f5 (OpenSpec.ofChange Rows.raceAllocSpec) false w args)
   (Rows.raceAllocSpec.post enc prog Tryz.f5 false true false false):=by
 refine returnsInHanded_of_change_and (C:=Tryz.checked) (X:=fun w _=>laidMetH prog laid w) (fun _ _ _ hh h=>h.of_heap hh) Tryz.own started (by kernel_rfl) func5
  (ChangeSpec.witness_at (enc:=enc) (C:=Tryz.checked) (os:=os) (X:=fun w _=>laidMetH prog laid w) false (laidWorld os) #[.int .i64 0,.int .i64 0,.slice none 0 0] 8 rfl (by kernel_rfl) (by kernel_rfl) (by kernel_rfl) (by kernel_rfl) (by kernel_rfl) (laidWorld_met os _)) ?_
 intro W base args ds gs before hval0 hW _ _ hL _
 have hval:∀ (j:Nat) t v,Tryz.f5.params[j]? = some t->args[j]? = some v->Value.okWide prog W .any base t v:=hval0
 have hW':=hW
 obtain ⟨p,q,hA0,hV0,rfl,hfz,hnd⟩:=hW
 have hA:DataW.TrodAll enc prog W 0 (fun _=>true) true Tryz.f5.params.toList args.toList ds p:=hA0
 have hV:DataW.TrodVars enc prog W (fun _=>true) [] gs q:=hV0
 rw [Tryz.params5] at hA hval
 have hst:=hA
 obtain ⟨T,F,hb⟩:=block_of_laid hL
 obtain ⟨rfl,rfl⟩:gs = []/\q = []:=by
  cases gs with
  | nil=>exact ⟨rfl,hV⟩
  | cons g r=>exact absurd hV (by intro h; cases h)
 obtain ⟨v0,w0,d0,e0,p0,q0,hx0,rfl,rfl,h0,hA0⟩:=trodAll_cons hA
 obtain ⟨v1,w1,d1,e1,p1,q1,hx1,rfl,rfl,h1,hA1⟩:=trodAll_cons hA0
 obtain ⟨v2,w2,d2,e2,p2,q2,hx2,rfl,rfl,h2,hA2⟩:=trodAll_cons hA1
 obtain ⟨hy,rfl,rfl⟩:=trodAll_nil hA2
 subst hy
 subst hx2
 subst hx1
 obtain rfl:args = #[v0,v1,v2]:=by apply Array.ext'; exact hx0
 obtain ⟨n0,rfl,rfl,rfl,hw0⟩:=open_int underlying3 (hval 0 3 v0 rfl rfl) h0
 obtain ⟨n1,rfl,rfl,rfl,hw1⟩:=open_int underlying3 (hval 1 3 v1 rfl rfl) h1
 obtain ⟨s2,ys2,rfl,A2⟩:=open_arg (m:=1) (ks:=[.i .i64]) (enc':=fun x:{x:Int // tM [.i .i64] ((cI .i64) x)}=>(cI .i64) x.1) underlying39 (by kernel_rfl) (by kernel_rfl) (by decide) decRaceAlloc3 (hval 2 39 v2 rfl rfl) h2 (fun b o hb=>hfz b o (by simp [hb])) hb no_iface
 obtain ⟨A2,hf2⟩:=A2.sub
 generalize ys2.map (·.1) = xs2 at A2 hf2
 refine (run_spV A2 (ET:=T) (EF:=F) (sp_RaceAlloc n0 n1 s2 xs2) hb).mono fun e W' ⟨he,hk⟩=>?_
 subst he
 refine ⟨_,rfl,_,_,_,[],(([]:List MemPlace)++(([]:List MemPlace)++(p2++[]))),[],hW',?_,?_,?_,keptBut_same hk.os hk.out hk.heap,fun h=>by cases h⟩
 ·exact trodAll_mk1 (shut_bool underlying4 true)
 ·exact same_post (by kernel_rfl) (by kernel_rfl) hst (fun p hp=>hW'.lt p (List.mem_append_left _ hp)) hk (fun p hp=>by simpa using hW'.lt p (List.mem_append_left _ hp))
 ·rfl
end
section
open Go Mb Go.ChangeShapes Go.WideShapes Go.RowKit
theorem jf0:Tryz.pinned.checked.prog.funcNamed Rows.raceAllocRow.func = some 5:=by kernel_rfl
theorem jf1:(Rows.raceAllocRow.wf (OpenSpec.ofChange Rows.raceAllocSpec) && laidOutB Tryz.pinned.checked.prog && mapsRowed Tryz.pinned.checked.prog) = true:=by kernel_rfl
theorem jf2:(Tryz.f5.params.all (Tryz.pinned.checked.prog.readableRec ·) && namedTie Tryz.pinned.checked.prog Rows.raceAllocRow.named Rows.raceAllocSpec.vars && (Rows.raceAllocRow.stops == []) && (Tryz.pinned.checked.prog.stops == []) && (Rows.raceAllocRow.knobs == []) && (Tryz.pinned.checked.prog.stopKnobs == [])) = true:=by kernel_rfl
theorem jf3:(Rows.raceAllocRow.inPlace == Tryz.pinned.checked.prog.inPlace 5) = true:=by kernel_rfl
theorem jf4:(Rows.raceAllocRow.unfollowed == Tryz.pinned.checked.prog.unfollowed 5) = true:=by kernel_rfl
theorem jf5:(Rows.raceAllocRow.recurses == Tryz.pinned.checked.prog.recurses 5) = true:=by kernel_rfl
theorem jf6:(Rows.raceAllocRow.named == Tryz.pinned.checked.prog.varsNamed 5) = true:=by kernel_rfl
theorem jf7:((Rows.raceAllocRow.maps == (Tryz.f5.params.toList++Rows.raceAllocSpec.plain.varTypes Tryz.pinned.checked.prog).any (Tryz.pinned.checked.prog.mapsRec ·)) && (Rows.raceAllocRow.ifaces == (Tryz.f5.params.toList++Rows.raceAllocSpec.plain.varTypes Tryz.pinned.checked.prog).any (Tryz.pinned.checked.prog.ifacesRec ·)) && (Rows.raceAllocRow.mapsOut == Tryz.pinned.checked.prog.mapsAmong Tryz.f5.resultTypes.toList) &&
 (Rows.raceAllocRow.loops == (Tryz.f5.params.toList++Rows.raceAllocSpec.plain.varTypes Tryz.pinned.checked.prog).any (Tryz.pinned.checked.prog.loopsFrom ·)) && (Rows.raceAllocRow.wideKeys == (Tryz.f5.params.toList++Rows.raceAllocSpec.plain.varTypes Tryz.pinned.checked.prog++Tryz.f5.resultTypes.toList).any (Tryz.pinned.checked.prog.wideKeysFrom ·)) &&
 Rows.raceAllocSpec.vars.all (Tryz.pinned.checked.prog.varReadable ·) && Tryz.f5.resultTypes.all (fun t=>Tryz.pinned.checked.prog.readableRec t && decide (t < Tryz.pinned.checked.prog.types.size)) && (Rows.raceAllocRow.ifacesOut == Tryz.f5.resultTypes.toList.any (Tryz.pinned.checked.prog.ifacesRec ·)) && (Rows.raceAllocRow.loopsOut == Tryz.f5.resultTypes.toList.any (Tryz.pinned.checked.prog.loopsFrom ·))) = true:=by kernel_rfl
theorem jf8:(Rows.raceAllocRow.plainKeys == Tryz.pinned.checked.prog.plainKeys) = true:=by kernel_rfl
theorem jf9:(Rows.raceAllocRow.shortTexts.isNone && Tryz.pinned.checked.prog.stopsHeard && Tryz.pinned.checked.prog.mayEnter && (Rows.raceAllocRow.lifted == Tryz.pinned.checked.prog.liftsFinal) && (Tryz.pinned.checked.prog.make == some Rows.raceAllocRow.make) && kindsB Tryz.pinned.checked.prog Tryz.f5 Rows.raceAllocRow && (Rows.raceAllocRow.pinned == Rows.raceAllocRow.pinnedBy) &&
 (Rows.raceAllocRow.veiled == (Tryz.f5.params.toList++Rows.raceAllocSpec.plain.varTypes Tryz.pinned.checked.prog++Tryz.f5.resultTypes.toList).any (Tryz.pinned.checked.prog.veiledRec ·)) && Rows.raceAllocRow.veiledFits Tryz.pinned.checked.prog Tryz.f5.params.toList (Tryz.f5.params.toList++Rows.raceAllocSpec.plain.varTypes Tryz.pinned.checked.prog++Tryz.f5.resultTypes.toList)) = true:=by kernel_rfl
theorem said_5:Rows.RaceAllocSaid :=
 OpenClaim.holds_of_wide 5 Tryz.f5 rfl rfl rfl rfl rfl rfl rfl ⟨rfl,rfl,rfl,rfl,rfl⟩ rfl rfl rfl rfl rfl jf0 func5 (joined_split jf1 jf2 jf3 jf4 jf5 jf6 jf7 jf8 jf9)
  (of_decide_eq_true (by kernel_rfl)) (by unfold Func.isWrapper; rw [if_neg (of_decide_eq_false (by kernel_rfl))]; exact ⟨rfl,rfl⟩)
  (fun os started H enc _=>lifted_5 os started H enc)
theorem raceAlloc_holds:Rows.RaceAllocCardSaid :=
 Claim7.holds_tied_plain_at .later [] [.handle] true (true, "a63c83af46769ae5b2e0de3169bc55eed442217913052e397606a55bd0c0baed") true
  said_5 (fun _ h=>by cases h) (by kernel_rfl) (fun _ h=>by cases h) raceAlloc_row_tie rfl ⟨rfl,rfl⟩ (by kernel_rfl) rfl
  (fun f fn hf hfn=>by
   obtain rfl:f = 5:=Option.some.inj ((show prog.funcNamed "messuage/messuagelaw16.RaceAlloc" = some 5 by kernel_rfl).symm.trans hf) |>.symm
   obtain rfl:fn = Tryz.f5:=(Option.some.inj (func5.symm.trans hfn)).symm
   exact ⟨by kernel_rfl,fun j t ht=>by
    rw [Tryz.params5] at ht
    exact want_all (by kernel_rfl) (j:=j) (t:=t) ht⟩)
  (by kernel_rfl)
end
end Go.Proofs.YtemoifebbhoinaaGreatDoor
