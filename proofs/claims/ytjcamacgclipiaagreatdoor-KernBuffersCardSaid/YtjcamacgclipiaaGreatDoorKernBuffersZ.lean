/- The law KernBuffers returns true for every input, and leaves its arguments as they were. -/
import Derived.Test.YtjcamacgclipiaaGreatDoorKernBuffers17
import Derived.Test.YtjcamacgclipiaaGreatDoorCards
import Derived.Test.YtjcamacgclipiaaGreatDoorTie
set_option linter.all false
set_option maxRecDepth 20000
set_option maxHeartbeats 4000000
namespace Go.Proofs.YtjcamacgclipiaaGreatDoor
open Go.Proofs.Tryz
open Go.IntKind (i64 u64)
section
open Go Mb Go.ChangeShapes Go.WideShapes Go.RowKit
theorem decKernBuffers23 (cs:List Value) (h:rx [.i .i64,.i .i64,.i .i64] cs):∃ x:{x:ao // rx [.i .i64,.i .i64,.i .i64] (ao.C x)},ao.C x.1 = cs:=by
 have h0:=h;obtain ⟨a0,r0,rfl,_,h⟩:=wP h;obtain ⟨a1,r1,rfl,_,h⟩:=wP h;obtain ⟨a2,r2,rfl,_,h⟩:=wP h;obtain rfl:=fit_nil h;exact ⟨⟨⟨a0,a1,a2⟩,h0⟩,rfl⟩
theorem decKernBuffers34 (cs:List Value) (h:rx [.i .i64,.i .i64,.i .i64,.i .u64,.i .u64,.i .u64,.i .u64,.i .u64,.i .i64,.i .i64] cs):∃ x:{x:bJ // rx [.i .i64,.i .i64,.i .i64,.i .u64,.i .u64,.i .u64,.i .u64,.i .u64,.i .i64,.i .i64] (bJ.C x)},bJ.C x.1 = cs:=by
 have h0:=h;obtain ⟨a0,r0,rfl,_,h⟩:=wP h;obtain ⟨a1,r1,rfl,_,h⟩:=wP h;obtain ⟨a2,r2,rfl,_,h⟩:=wP h;obtain ⟨a3,r3,rfl,_,h⟩:=wP h;obtain ⟨a4,r4,rfl,_,h⟩:=wP h;obtain ⟨a5,r5,rfl,_,h⟩:=wP h;obtain ⟨a6,r6,rfl,_,h⟩:=wP h;obtain ⟨a7,r7,rfl,_,h⟩:=wP h;obtain ⟨a8,r8,rfl,_,h⟩:=wP h;obtain ⟨a9,r9,rfl,_,h⟩:=wP h;obtain rfl:=fit_nil h;exact ⟨⟨⟨a0,a1,a2,⟨a3,a4,a5,a6,a7⟩,a8,a9⟩,h0⟩,rfl⟩
set_option maxRecDepth 100000 in
theorem lifted_4 (os:Os) (started:os.Started) (H:Type) (enc:TypeId × Value->H) :
  ReturnsInHanded {} Tryz.checked os 4 .any (fun w args=>(Rows.kernBuffersSpec.pre enc prog Tryz.f4 [] false w args/\laidMetH prog laid w)/\sizedMet enc prog Tryz.f4 (OpenSpec.ofChange Rows.kernBuffersSpec) false w args)
   (Rows.kernBuffersSpec.post enc prog Tryz.f4 false true false false):=by
 refine returnsInHanded_of_change_and (C:=Tryz.checked) (X:=fun w _=>laidMetH prog laid w) (fun _ _ _ hh h=>h.of_heap hh) Tryz.own started (by kernel_rfl) func4
  (ChangeSpec.witness_at (enc:=enc) (C:=Tryz.checked) (os:=os) (X:=fun w _=>laidMetH prog laid w) false (laidWorld os) #[.agg #[.int .i64 0,.int .i64 0,.int .i64 0],.slice none 0 0] 8 rfl (by kernel_rfl) (by kernel_rfl) (by kernel_rfl) (by kernel_rfl) (by kernel_rfl) (laidWorld_met os _)) ?_
 intro W base args ds gs before hval0 hW _ _ hL _;have hval:∀ (j:Nat) t v,Tryz.f4.params[j]? = some t->args[j]? = some v->Value.okWide prog W .any base t v:=hval0;have hW':=hW;obtain ⟨p,q,hA0,hV0,rfl,hfz,hnd⟩:=hW;have hA:DataW.TrodAll enc prog W 0 (fun _=>true) true Tryz.f4.params.toList args.toList ds p:=hA0;have hV:DataW.TrodVars enc prog W (fun _=>true) [] gs q:=hV0;rw [Tryz.params4] at hA hval;have hst:=hA;obtain ⟨T,F,hb⟩:=block_of_laid hL;obtain ⟨rfl,rfl⟩:gs = []/\q = []:=by
  cases gs with
  | nil=>exact ⟨rfl,hV⟩
  | cons g r=>exact absurd hV (by intro h; cases h)
 obtain ⟨v0,w0,d0,e0,p0,q0,hx0,rfl,rfl,h0,hA0⟩:=trodAll_cons hA;obtain ⟨v1,w1,d1,e1,p1,q1,hx1,rfl,rfl,h1,hA1⟩:=trodAll_cons hA0;obtain ⟨hy,rfl,rfl⟩:=trodAll_nil hA1;subst hy;subst hx1;obtain rfl:args = #[v0,v1]:=by apply Array.ext'; exact hx0
 obtain ⟨c0,rfl,hc0⟩:=open_struct (ks:=[.i .i64,.i .i64,.i .i64]) underlying23 (by kernel_rfl) (hval 0 23 v0 rfl rfl) h0;obtain ⟨⟨z0,hf0⟩,rfl⟩:=decKernBuffers23 _ hc0;obtain ⟨s1,ys1,rfl,A1⟩:=open_arg (m:=10) (ks:=[.i .i64,.i .i64,.i .i64,.i .u64,.i .u64,.i .u64,.i .u64,.i .u64,.i .i64,.i .i64]) (enc':=fun x:{x:bJ // rx [.i .i64,.i .i64,.i .i64,.i .u64,.i .u64,.i .u64,.i .u64,.i .u64,.i .i64,.i .i64] (bJ.C x)}=>bJ.C x.1) underlying24 (by kernel_rfl) (by kernel_rfl) (by decide) decKernBuffers34 (hval 1 24 v1 rfl rfl) h1 (fun b o hb=>hfz b o (by simp [hb])) hb no_iface;obtain ⟨A1,hf1⟩:=A1.sub;generalize ys1.map (·.1) = xs1 at A1 hf1;refine (run_spV A1 (ET:=T) (EF:=F) (sp_KernBuffers z0 s1 xs1 (fun p hp=>cw_of (hf1 p hp))) hb).mono fun e W' ⟨he,hk⟩=>?_;subst he;refine ⟨_,rfl,_,_,_,[],(p0++(p1++[])),[],hW',?_,?_,?_,keptBut_same hk.os hk.out hk.heap,fun h=>by cases h⟩
 ·exact trodAll_mk1 (shut_bool underlying4 true)
 ·exact same_post (by kernel_rfl) (by kernel_rfl) hst (fun p hp=>hW'.lt p (List.mem_append_left _ hp)) hk (fun p hp=>by simpa using hW'.lt p (List.mem_append_left _ hp))
 ·rfl
end
section
open Go Mb Go.ChangeShapes Go.WideShapes Go.RowKit
theorem jf0:Tryz.pinned.checked.prog.funcNamed Rows.kernBuffersRow.func = some 4:=by kernel_rfl
theorem jf1:(Rows.kernBuffersRow.wf (OpenSpec.ofChange Rows.kernBuffersSpec) && laidOutB Tryz.pinned.checked.prog && mapsRowed Tryz.pinned.checked.prog) = true:=by kernel_rfl
theorem jf2:(Tryz.f4.params.all (Tryz.pinned.checked.prog.readableRec ·) && namedTie Tryz.pinned.checked.prog Rows.kernBuffersRow.named Rows.kernBuffersSpec.vars && (Rows.kernBuffersRow.stops == []) && (Tryz.pinned.checked.prog.stops == []) && (Rows.kernBuffersRow.knobs == []) && (Tryz.pinned.checked.prog.stopKnobs == [])) = true:=by kernel_rfl
theorem jf3:(Rows.kernBuffersRow.inPlace == Tryz.pinned.checked.prog.inPlace 4) = true:=by kernel_rfl
theorem jf4:(Rows.kernBuffersRow.unfollowed == Tryz.pinned.checked.prog.unfollowed 4) = true:=by kernel_rfl
theorem jf5:(Rows.kernBuffersRow.recurses == Tryz.pinned.checked.prog.recurses 4) = true:=by kernel_rfl
theorem jf6:(Rows.kernBuffersRow.named == Tryz.pinned.checked.prog.varsNamed 4) = true:=by kernel_rfl
theorem jf7:((Rows.kernBuffersRow.maps == (Tryz.f4.params.toList++Rows.kernBuffersSpec.plain.varTypes Tryz.pinned.checked.prog).any (Tryz.pinned.checked.prog.mapsRec ·)) && (Rows.kernBuffersRow.ifaces == (Tryz.f4.params.toList++Rows.kernBuffersSpec.plain.varTypes Tryz.pinned.checked.prog).any (Tryz.pinned.checked.prog.ifacesRec ·)) && (Rows.kernBuffersRow.mapsOut == Tryz.pinned.checked.prog.mapsAmong Tryz.f4.resultTypes.toList) &&
 (Rows.kernBuffersRow.loops == (Tryz.f4.params.toList++Rows.kernBuffersSpec.plain.varTypes Tryz.pinned.checked.prog).any (Tryz.pinned.checked.prog.loopsFrom ·)) && (Rows.kernBuffersRow.wideKeys == (Tryz.f4.params.toList++Rows.kernBuffersSpec.plain.varTypes Tryz.pinned.checked.prog++Tryz.f4.resultTypes.toList).any (Tryz.pinned.checked.prog.wideKeysFrom ·)) &&
 Rows.kernBuffersSpec.vars.all (Tryz.pinned.checked.prog.varReadable ·) && Tryz.f4.resultTypes.all (fun t=>Tryz.pinned.checked.prog.readableRec t && decide (t < Tryz.pinned.checked.prog.types.size)) && (Rows.kernBuffersRow.ifacesOut == Tryz.f4.resultTypes.toList.any (Tryz.pinned.checked.prog.ifacesRec ·)) && (Rows.kernBuffersRow.loopsOut == Tryz.f4.resultTypes.toList.any (Tryz.pinned.checked.prog.loopsFrom ·))) = true:=by kernel_rfl
theorem jf8:(Rows.kernBuffersRow.plainKeys == Tryz.pinned.checked.prog.plainKeys) = true:=by kernel_rfl
theorem jf9:(Rows.kernBuffersRow.shortTexts.isNone && Tryz.pinned.checked.prog.stopsHeard && Tryz.pinned.checked.prog.mayEnter && (Rows.kernBuffersRow.lifted == Tryz.pinned.checked.prog.liftsFinal) && (Tryz.pinned.checked.prog.make == some Rows.kernBuffersRow.make) && kindsB Tryz.pinned.checked.prog Tryz.f4 Rows.kernBuffersRow && (Rows.kernBuffersRow.pinned == Rows.kernBuffersRow.pinnedBy) &&
 (Rows.kernBuffersRow.veiled == (Tryz.f4.params.toList++Rows.kernBuffersSpec.plain.varTypes Tryz.pinned.checked.prog++Tryz.f4.resultTypes.toList).any (Tryz.pinned.checked.prog.veiledRec ·)) && Rows.kernBuffersRow.veiledFits Tryz.pinned.checked.prog Tryz.f4.params.toList (Tryz.f4.params.toList++Rows.kernBuffersSpec.plain.varTypes Tryz.pinned.checked.prog++Tryz.f4.resultTypes.toList)) = true:=by kernel_rfl
theorem said_4:Rows.KernBuffersSaid :=
 OpenClaim.holds_of_wide 4 Tryz.f4 rfl rfl rfl rfl rfl rfl rfl ⟨rfl,rfl,rfl,rfl,rfl⟩ rfl rfl rfl rfl rfl jf0 func4 (joined_split jf1 jf2 jf3 jf4 jf5 jf6 jf7 jf8 jf9)
  (of_decide_eq_true (by kernel_rfl)) (by unfold Func.isWrapper; rw [if_neg (of_decide_eq_false (by kernel_rfl))]; exact ⟨rfl,rfl⟩)
  (fun os started H enc _=>lifted_4 os started H enc)
theorem kernBuffers_holds:Rows.KernBuffersCardSaid :=
 Claim7.holds_tied_plain_at .later [] [.handle] true (true, "d504d3e9656db2d9dac0855e286f820b698b9cc5c71dc062b0abce4ba3214e2c") true
  said_4 (fun _ h=>by cases h) (by kernel_rfl) (fun _ h=>by cases h) kernBuffers_row_tie rfl ⟨rfl,rfl⟩ (by kernel_rfl) rfl
  (fun f fn hf hfn=>by
   obtain rfl:f = 4:=Option.some.inj ((show prog.funcNamed "messuage/messuagelaw16.KernBuffers" = some 4 by kernel_rfl).symm.trans hf) |>.symm;obtain rfl:fn = Tryz.f4:=(Option.some.inj (func4.symm.trans hfn)).symm;exact ⟨by kernel_rfl,fun j t ht=>by
    rw [Tryz.params4] at ht;exact want_all (by kernel_rfl) (j:=j) (t:=t) ht⟩)
  (by kernel_rfl)
end
end Go.Proofs.YtjcamacgclipiaaGreatDoor
