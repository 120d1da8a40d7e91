/- Part of the proof of: The law HistTurn returns true for every input, and leaves its arguments as they were. -/
import Derived.Test.YtemoifebbhoinaaGreatDoorHistTurn17
import Derived.Test.YtemoifebbhoinaaGreatDoorCards
import Derived.Test.YtemoifebbhoinaaGreatDoorRows
set_option linter.all false
set_option maxRecDepth 20000
namespace Go.Proofs.YtemoifebbhoinaaGreatDoor
open Go Mb
theorem star_imp {l:List As} {i:Nat} {A B:As} {h:Hp} (hi:l[i]? = some A) (ab:∀ h,A h→B h) (s:aF l h):aF (l.set i B) h:=by
  obtain ⟨h1,h2,d,e,a,s'⟩:=fB hi s
  exact dQ (List.getElem?_eq_some_iff.1 hi).1 ⟨h1,h2,d,e,ab _ a,s'⟩
theorem sliceTo_v {τ:Type} {P:Program} {l:List As} {h:Hp} {S T m bys i:Nat} {z:List Value} {enc:τ→List Value} {R:Sl→Value} {s:Sl} {xs:List τ} {n:Nat} {K:Sl→Hp→Prop} (E:El P S T m bys z) (he:∀ x,(enc x).length = m) (hR:R = sv) (st:aF l h) (hi:l[i]? = some (vec T m enc s xs)) (hn:n ≤ xs.length)
    (k:∀ v,v.len = n→(∀ h',vec T m enc v (xs.take n) h'→vec T m enc s xs h')→aF (l.set i (vec T m enc v (xs.take n))) h→K v h):hpv P (Instr.sliceAt S (sv s) none (some (.int .i64 n)) none) R K h:=by
  subst hR
  have hilt:=(List.getElem?_eq_some_iff.1 hi).1
  obtain ⟨e1,_⟩:=ce st hi
  have hcap:s.len ≤ s.cap:=by
    obtain ⟨_,⟨_,e2,_⟩,_⟩:=dX hi st
    exact e2
  have fin:∀ (v:Sl),v.a = s.a→v.len = n→v.cap = s.cap→(∀ h',vec T m enc v (xs.take n) h'→vec T m enc s xs h')→aF (l.set i (vec T m enc v (xs.take n))) h→hpv P (Instr.sliceAt S (sv s) none (some (.int .i64 n)) none) sv K h:=by
    intro v va vl vc vb vs
    have ev:sv (sub m s 0 n) = sv v:=by
      unfold sub sv
      rw [va,vl,vc]
      cases s.a with
      | none=>split <;> rfl
      | some q=>simp [pa]
    have H:=slice_raw (P:=P) (h:=h) (m:=m) (s:=s) (lo:=0) (hi:=n) (vlo:=none) (vhi:=some (.int .i64 n)) (R:=sv) (K:=fun r h'=>sv r = sv v∧h' = h) E rfl (.inr ⟨rfl,rfl⟩) (.inl rfl) (Nat.zero_le _) (by omega) ⟨ev,rfl⟩
    exact ⟨hp_mono _ (fun x h' ⟨r,e,e2,e3⟩=>⟨v,e.trans e2,by subst e3; exact k v vl vb vs⟩) _ H.go⟩
  obtain ⟨g1,g2,d,rfl,⟨f1,f2,f3⟩,s'⟩:=fB hi st
  rcases f3 with f3 | ⟨b,pre,rest,U,fr,f4,f5,f6,f7⟩
  · refine fin ⟨s.a,n,s.cap,none⟩ rfl rfl rfl (fun h' _=>⟨f1,f2,.inl f3⟩) (dQ hilt ⟨g1,g2,d,rfl,⟨?_,?_,.inl f3⟩,s'⟩)
    · show n = _; simp; omega
    · show n ≤ s.cap; omega
  · have hfl:(xs.take n).flatMap enc++((xs.drop n).flatMap enc++rest) = xs.flatMap enc++rest:=by
      rw [← List.append_assoc,← List.flatMap_append,List.take_append_drop]
    have hdl:((xs.drop n).flatMap enc).length = (xs.length - n) * m:=by rw [dR he]; simp
    refine fin ⟨s.a,n,s.cap,some (pre,(xs.drop n).flatMap enc++rest,U,fr)⟩ rfl rfl rfl ?_ (dQ hilt ⟨g1,g2,d,rfl,⟨?_,?_,.inr ⟨b,pre,(xs.drop n).flatMap enc++rest,U,fr,f4,?_,⟨rfl,(show nf fr pre.length (s.cap * m) from gh_nf f6)⟩,?_⟩⟩,s'⟩)
    · rintro h' ⟨a1,a2,a3⟩
      refine ⟨f1,f2,?_⟩
      rcases a3 with a3 | ⟨b',pre',rest',U',fr',c1,c2,c3,c4⟩
      · exact .inl a3
      · refine .inr ⟨b,pre,rest,U,fr,f4,f5,f6,?_⟩
        obtain ⟨c5,_⟩:=c3
        simp only [Prod.mk.injEq] at c5
        obtain ⟨rfl,rfl,rfl,rfl⟩:=c5
        have c1':s.a = some (b',pre.length):=c1
        rw [f4] at c1'
        simp only [Option.some.injEq,Prod.mk.injEq] at c1'
        obtain ⟨rfl,_⟩:=c1'
        rw [hfl] at c4
        exact c4
    · show n = _; simp; omega
    · show n ≤ s.cap; omega
    · show s.cap * m ≤ n * m + _
      rw [List.length_append,hdl,Nat.sub_mul]
      have:n * m ≤ xs.length * m:=Nat.mul_le_mul_right m hn
      rw [f1] at f5
      omega
    · rw [hfl]; exact f7
end Go.Proofs.YtemoifebbhoinaaGreatDoor
namespace Go.Proofs.YtemoifebbhoinaaGreatDoor
open Go Mb
theorem sp_Cut (s:Sl) (ps:List ri) (n:Int) (hn:0 ≤ n) (hn2:n < 2 ^ 40):Sp Tryz.prog mS [sv s,.int .i64 n] ii [vK s ps] (fun r=>pa_ (∀ h',vK r (ps.take n.toNat) h'→vK s ps h') [vK r (ps.take n.toNat)]):=by
  intro h st
  refine sim_messuagelaw16_Cut _ _ ?_
  unfold qV
  have hl:=(ce (j:=0) st rfl).1
  have hm:mn (s.len:Int) n = ((min ps.length n.toNat:Nat):Int):=by unfold mn; rw [hl]; split <;> omega
  rw [hm]
  refine sliceTo_v (i:=0) xF pick_len rfl st rfl (Nat.min_le_left _ _) fun v _ hb s1=>?_
  have ht:ps.take (min ps.length n.toNat) = ps.take n.toNat:=by
    rcases Nat.le_total ps.length n.toNat with h1 | h1
    · rw [Nat.min_eq_left h1,List.take_of_length_le (Nat.le_refl _),List.take_of_length_le h1]
    · rw [Nat.min_eq_right h1]
  rw [ht] at hb s1
  exact aZ hb s1
end Go.Proofs.YtemoifebbhoinaaGreatDoor
namespace Go.Proofs.YtemoifebbhoinaaGreatDoor
open Go Mb Go.ChangeShapes Go.WideShapes Go.RowKit
theorem Tryz.own:ownKnob Tryz.prog.godebug = none:=by kernel_rfl
theorem Tryz.et:Tryz.prog.globalNamed "errors.errorType" = some 0:=by kernel_rfl
theorem Tryz.rt:(Tryz.prog.cutTypes.find? (·.1 == "internal/reflectlite.rtype")).map (·.2) = some rD:=by kernel_rfl
abbrev laid:List (String × DataW Unit) := [("errors.errorType",Rows.laid_errors_errorType)]
theorem block_of_laid {W:World} (h:laidMetH Tryz.prog laid W):∃ T F,W.heap[0]? = some (.cells #[rtV gB] T F):=by
  have h':laidMet Tryz.prog [] W∧handlesMet Tryz.prog laid W:=h
  obtain ⟨name,u,ty,e1,e2,e3,e4,e5⟩:=h'.2 _ (List.mem_singleton.2 rfl)
  have en:name = [101,114,114,111,114]:=(Option.some.inj e1).symm
  subst en
  obtain rfl:=Option.some.inj (Tryz.rt.symm.trans e2)
  have hm:ty ∈ (List.range 351).filter fun t=>Tryz.prog.rowNamed t [101,114,114,111,114]:=List.mem_filter.2 ⟨List.mem_range.2 (by rw [← g4]; exact e3),e4⟩
  rw [oneErr] at hm
  obtain rfl:=List.mem_singleton.1 hm
  have hh:typeHandle Tryz.prog 199 = .pointer (some ⟨4,199,none⟩):=by kernel_rfl
  rw [hh] at e5
  unfold World.var? at e5
  rw [Tryz.et] at e5
  simp only [Option.bind_some] at e5
  split at e5
  · rename_i cs T F hq
    cases e5
    exact ⟨T,F,hq⟩
  · cases e5
noncomputable def laidWorld (os:Os):World :=
  let w0:=World.holding Tryz.prog os ⟨#[],#[],[]⟩
  { w0 with heap:=w0.heap.modify 0 fun
      | .cells _ t frozen=>.cells #[rtV gB] t frozen
      | o=>o }
theorem laidWorld_met (os:Os) (args:Array Value):laidMetH Tryz.prog laid ((laidWorld os).forCall (fun _ _=>0) ⟨#[],args,[]⟩).memory :=
  laidMetH_of_parts (laidMet_nil _ _) (by kernel_rfl)
theorem keptBut_same {w w':World} {may:MemPlace→Prop} (h1:w'.os = w.os) (h2:w'.output = w.output) (h:∀ i,i < w.heap.size→w'.heap[i]? = w.heap[i]?):w.keptBut w' may:=by
  refine ⟨h1,h2,fun i hi=>?_⟩
  have:=(World.keptBut_refl w may).2.2 i hi
  rw [h i hi]
  exact this
def kindsB (P:Program) (fn:Func) (c:OpenClaim):Bool:=c.kinds == (if c.domain.isEmpty then [] else fn.params.toList.map fun t=>match P.underlying t with | some (.int k)=>some k | _=>none)
theorem joined_split {P:Program} {f:FuncId} {fn:Func} {s:ChangeSpec} {c:OpenClaim} (h1:(c.wf (OpenSpec.ofChange s) && laidOutB P && mapsRowed P) = true)
    (h2:(fn.params.all (P.readableRec ·) && namedTie P c.named s.vars && (c.stops == []) && (P.stops == []) && (c.knobs == []) && (P.stopKnobs == [])) = true)
    (h3:(c.inPlace == P.inPlace f) = true) (h4:(c.unfollowed == P.unfollowed f) = true) (h5:(c.recurses == P.recurses f) = true) (h6:(c.named == P.varsNamed f) = true)
    (h7:((c.maps == (fn.params.toList++s.plain.varTypes P).any (P.mapsRec ·)) && (c.ifaces == (fn.params.toList++s.plain.varTypes P).any (P.ifacesRec ·)) && (c.mapsOut == P.mapsAmong fn.resultTypes.toList) &&
  (c.loops == (fn.params.toList++s.plain.varTypes P).any (P.loopsFrom ·)) && (c.wideKeys == (fn.params.toList++s.plain.varTypes P++fn.resultTypes.toList).any (P.wideKeysFrom ·)) &&
  s.vars.all (P.varReadable ·) && fn.resultTypes.all (fun t=>P.readableRec t && decide (t < P.types.size)) && (c.ifacesOut == fn.resultTypes.toList.any (P.ifacesRec ·)) && (c.loopsOut == fn.resultTypes.toList.any (P.loopsFrom ·))) = true)
    (h8:(c.plainKeys == P.plainKeys) = true) (h9:(c.shortTexts.isNone && P.stopsHeard && P.mayEnter && (c.lifted == P.liftsFinal) && (P.make == some c.make) && kindsB P fn c && (c.pinned == c.pinnedBy) &&
  (c.veiled == (fn.params.toList++s.plain.varTypes P++fn.resultTypes.toList).any (P.veiledRec ·)) && c.veiledFits P fn.params.toList (fn.params.toList++s.plain.varTypes P++fn.resultTypes.toList)) = true):joinedFacts P f fn s c = true:=by
  unfold joinedFacts
  unfold kindsB at h9
  rw [Bool.and_eq_true] at h1 h2 h7 h9
  simp only [Bool.and_eq_true] at h1 h2 h7 h9
  obtain ⟨⟨a1,a2⟩,a3⟩:=h1
  obtain ⟨⟨⟨⟨⟨b1,b2⟩,b3⟩,b4⟩,b5⟩,b6⟩:=h2
  obtain ⟨⟨⟨⟨⟨⟨⟨⟨c1,c2⟩,c3⟩,c4⟩,c5⟩,c6⟩,c7⟩,c8⟩,c9⟩:=h7
  obtain ⟨⟨⟨⟨⟨⟨⟨⟨d1,d2⟩,d3⟩,d4⟩,d5⟩,d6⟩,d7⟩,d8⟩,d9⟩:=h9
  simp only [Bool.and_eq_true]
  exact ⟨⟨⟨⟨⟨⟨⟨⟨⟨⟨⟨⟨⟨⟨⟨⟨⟨⟨⟨⟨⟨⟨⟨⟨⟨⟨⟨⟨⟨⟨⟨a1,a2⟩,a3⟩,b1⟩,b2⟩,b3⟩,b4⟩,b5⟩,b6⟩,h3⟩,h4⟩,h5⟩,h6⟩,c1⟩,c2⟩,c3⟩,c4⟩,c5⟩,c6⟩,c7⟩,c8⟩,c9⟩,h8⟩,d1⟩,d2⟩,d3⟩,d4⟩,d5⟩,d6⟩,d7⟩,d8⟩,d9⟩
end Go.Proofs.YtemoifebbhoinaaGreatDoor
namespace Go.Proofs.YtemoifebbhoinaaGreatDoor
open Go Mb Go.ChangeShapes Go.WideShapes Go.RowKit
inductive FK where
  | i (k:IntKind)
  | b
def FK.ok:FK→Value→Prop
  | .i k,v=>∃ n,v = .int k n∧(Lit.int k n).wf = true
  | .b,v=>∃ x,v = .bool x
def rj:List FK→List Value→Prop
  | [],[]=>True
  | k::ks,v::vs=>k.ok v∧rj ks vs
  | _,_=>False
theorem rj.app:∀ {ks ls:List FK} {vs ws:List Value},rj ks vs→rj ls ws→rj (ks++ls) (vs++ws)
  | [],_,[],_,_,h=>h
  | _::_,_,_::_,_,h,g=>⟨h.1,h.2.app g⟩
  | [],_,_::_,_,h,_=>h.elim
  | _::_,_,[],_,h,_=>h.elim
theorem rj.len:∀ {ks:List FK} {vs:List Value},rj ks vs→vs.length = ks.length
  | [],[],_=>rfl
  | _::_,_::_,h=>by simp [h.2.len]
  | [],_::_,h=>h.elim
  | _::_,[],h=>h.elim
def fldK (P:Program) (r:TypeId→Option (List FK)):Nat→List Field→Option (List FK)
  | _,[]=>some []
  | o,f::fs=>if f.offset = o then (r f.type).bind fun ks=>if ks.length = P.cellsOf f.type then (fldK P r (o + ks.length) fs).map (ks++·) else none else none
def flatK (P:Program):Nat→TypeId→Option (List FK)
  | 0,_=>none
  | n + 1,t=>match P.underlying t with
    | some (.int k)=>some [.i k]
    | some .bool=>some [.b]
    | some (.struct fs)=>(fldK P (flatK P n) 0 fs.toList).bind fun ks=>if ks.length = P.cellsOf t then some ks else none
    | some (.array m e)=>(flatK P n e).bind fun ks=>if ks.length = P.cellsOf e∧m * ks.length = P.cellsOf t then some (List.replicate m ks).flatten else none
    | _=>none
section
variable {H:Type} {enc:TypeId × Value→H} {P:Program} {W:World} {base:Nat} {sp:Nat→Bool} {held:Bool}
theorem trod_array {t e m fuel:Nat} {cs:List Value} {x:DataW H × List MemPlace} (ht:P.underlying t = some (.array m e)) (h:DataW.trod enc P W base sp held fuel t cs = some x) :
    ∃ (xs:List (DataW H × List MemPlace)) (n:Nat),fuel = n + 1∧x = (.agg (xs.map (·.1)),xs.flatMap (·.2))∧cs.length = P.cellsOf t∧xs.length = m ∧
      ∀ i,i < m→DataW.trod enc P W base sp held n e ((cs.drop (i * P.cellsOf e)).take (P.cellsOf e)) = xs[i]?:=by
  cases fuel with
  | zero=>simp [DataW.trod] at h
  | succ n =>
    unfold DataW.trod at h
    rw [ht] at h
    split at h <;> simp_all
    obtain ⟨hl,xs,hp,hd⟩:=h
    refine ⟨xs,hd.symm,by simpa using mapM_some_length hp,fun i hi=>mapM_some_get hp i i (by simp [hi])⟩
theorem flatMap_nil {α β:Type} {f:α→List β} {xs:List α} (h:∀ x ∈ xs,f x = []):xs.flatMap f = []:=by
  rw [List.flatMap_eq_nil_iff]; exact h
theorem take_drop_take (cs:List Value) (o n:Nat):(cs.drop o).take n++cs.drop (o + n) = cs.drop o:=by
  rw [← List.drop_drop,List.take_append_drop]
theorem fld_fits {r:TypeId→Option (List FK)} {cs:List Value} {g:TypeId→List Value→Option (DataW H × List MemPlace)} (hr:∀ t ks cs x,r t = some ks→g t cs = some x→rj ks cs∧x.2 = []) :
    ∀ (fs:List Field) (o:Nat) (ks:List FK),fldK P r o fs = some ks→(∀ f ∈ fs,∃ x,g f.type ((cs.drop f.offset).take (P.cellsOf f.type)) = some x)→o + ks.length = cs.length→rj ks (cs.drop o)
  | [],o,ks,h,_,hl=>by
    simp only [fldK,Option.some.injEq] at h
    subst h
    have:cs.drop o = []:=List.drop_eq_nil_of_le (by simp at hl; omega)
    rw [this]; trivial
  | f::fs,o,ks,h,hx,hl=>by
    unfold fldK at h
    split at h
    · rename_i ho
      obtain ⟨ks1,h1,h2⟩:=Option.bind_eq_some_iff.1 h
      split at h2
      · rename_i hc
        obtain ⟨ks2,h3,rfl⟩:=Option.map_eq_some_iff.1 h2
        obtain ⟨x,hx1⟩:=hx f (by simp)
        have f1:=(hr _ _ _ _ h1 hx1).1
        have f2:=fld_fits hr fs (o + ks1.length) ks2 h3 (fun f' hf'=>hx f' (by simp [hf'])) (by simp at hl; omega)
        rw [ho,← hc] at f1
        have:=f1.app f2
        rwa [take_drop_take] at this
      · cases h2
    · cases h
theorem arr_fits {ks:List FK} {c:Nat} (hc:ks.length = c):∀ (m:Nat) (cs:List Value),cs.length = m * c→(∀ i,i < m→rj ks ((cs.drop (i * c)).take c))→rj (List.replicate m ks).flatten cs
  | 0,cs,hl,_=>by
    have:cs = []:=List.eq_nil_of_length_eq_zero (by simpa using hl)
    subst this; trivial
  | m + 1,cs,hl,h=>by
    rw [List.replicate_succ,List.flatten_cons]
    have h0:=h 0 (by omega)
    simp only [Nat.zero_mul,List.drop_zero] at h0
    have h1:=arr_fits hc m (cs.drop c) (by rw [List.length_drop,hl,Nat.succ_mul]; omega) (fun i hi=>by
      have:=h (i + 1) (by omega)
      rwa [List.drop_drop,Nat.add_comm,← Nat.succ_mul])
    have:=h0.app h1
    rwa [List.take_append_drop] at this
theorem trod_flat:∀ (n t:Nat) (ks:List FK),flatK P n t = some ks→∀ (fuel:Nat) (cs:List Value) (x:DataW H × List MemPlace),DataW.trod enc P W base sp held fuel t cs = some x→rj ks cs∧x.2 = []
  | 0,_,_,h,_,_,_,_=>by cases h
  | n + 1,t,ks,h,fuel,cs,x,hx=>by
    have ih:=trod_flat n
    unfold flatK at h
    split at h
    · rename_i k hu
      cases h
      obtain ⟨m,rfl,rfl,hw⟩:=DataW.trod_int hu hx
      exact ⟨⟨⟨m,rfl,hw⟩,trivial⟩,rfl⟩
    · rename_i hu
      cases h
      obtain ⟨b,rfl,rfl⟩:=DataW.trod_bool hu hx
      exact ⟨⟨⟨b,rfl⟩,trivial⟩,rfl⟩
    · rename_i fs hu
      obtain ⟨ks',h1,h2⟩:=Option.bind_eq_some_iff.1 h
      split at h2
      · rename_i hc
        cases h2
        obtain ⟨xs,f,rfl,rfl,hl,hxl,hi⟩:=DataW.trod_struct hu hx
        have hall:∀ fl ∈ fs.toList,∃ x,DataW.trod enc P W base sp held f fl.type ((cs.drop fl.offset).take (P.cellsOf fl.type)) = some x:=by
          intro fl hfl
          obtain ⟨i,hi1,hi2⟩:=List.getElem_of_mem hfl
          have:=hi i fl (by rw [← Array.getElem?_toList,List.getElem?_eq_getElem hi1,hi2])
          have hlt:i < xs.length:=by rw [hxl]; simpa using hi1
          rw [List.getElem?_eq_getElem hlt] at this
          exact ⟨_,this⟩
        refine ⟨?_,flatMap_nil fun y hy=>?_⟩
        · have:=fld_fits (P:=P) (cs:=cs) (fun t ks cs x h=>ih t ks h f cs x) fs.toList 0 ks h1 hall (by rw [hc,hl]; omega)
          simpa using this
        · obtain ⟨i,hi1,rfl⟩:=List.getElem_of_mem hy
          have hif:i < fs.size:=by rw [← hxl]; exact hi1
          have h3:=hi i fs[i] (by simp [hif])
          rw [List.getElem?_eq_getElem hi1] at h3
          have key:∀ (l:List Field) (o:Nat) (ks:List FK),fldK P (flatK P n) o l = some ks→∀ fl ∈ l,∃ ks,flatK P n fl.type = some ks:=by
            intro l
            induction l with
            | nil=>intro _ _ _ fl h; cases h
            | cons a l ihl =>
              intro o ks hk fl hfl
              unfold fldK at hk
              split at hk
              · obtain ⟨k1,hk1,hk2⟩:=Option.bind_eq_some_iff.1 hk
                rcases List.mem_cons.1 hfl with rfl | hfl
                · exact ⟨_,hk1⟩
                · split at hk2
                  · obtain ⟨k2,hk3,_⟩:=Option.map_eq_some_iff.1 hk2
                    exact ihl _ _ hk3 fl hfl
                  · cases hk2
              · cases hk
          obtain ⟨ks2,hks2⟩:=key _ _ _ h1 fs[i] (by simp)
          exact (ih _ _ hks2 _ _ _ h3).2
      · cases h2
    · rename_i m e hu
      obtain ⟨ks',h1,h2⟩:=Option.bind_eq_some_iff.1 h
      split at h2
      · rename_i hc
        cases h2
        obtain ⟨xs,f,rfl,rfl,hl,hxl,hi⟩:=trod_array hu hx
        have hat:∀ i,i < m→∃ x,xs[i]? = some x∧DataW.trod enc P W base sp held f e ((cs.drop (i * P.cellsOf e)).take (P.cellsOf e)) = some x:=fun i him=>by
          have:=hi i him
          rw [List.getElem?_eq_getElem (by omega)] at this
          exact ⟨_,List.getElem?_eq_getElem (by omega),this⟩
        refine ⟨arr_fits (by exact hc.1) m cs (by rw [hl,← hc.2,hc.1]) (fun i him=>?_),flatMap_nil fun y hy=>?_⟩
        · obtain ⟨x,_,hx2⟩:=hat i him
          exact (ih _ _ h1 _ _ _ hx2).1
        · obtain ⟨i,hi1,rfl⟩:=List.getElem_of_mem hy
          obtain ⟨x,hx1,hx2⟩:=hat i (by omega)
          rw [List.getElem?_eq_getElem hi1] at hx1
          cases hx1
          exact (ih _ _ h1 _ _ _ hx2).2
      · cases h2
    · cases h
end
structure Arg {τ:Type} (W:World) (m:Nat) (enc:τ→List Value) (s:Sl) (xs:List τ):Prop where
  len:s.len = xs.length
  cap:s.len ≤ s.cap
  row:s.cap = 0∨∃ b pre rest U fr,s.a = some (b,pre.length)∧s.cap * m ≤ s.len * m + rest.length∧s.g = some (pre,rest,U,fr)∧nf fr pre.length (s.cap * m)∧b ≠ 0∧W.heap[b]? = some (.cells (pre++(xs.flatMap enc++rest)).toArray U fr)
section
variable {H:Type} {enc:TypeId × Value→H} {P:Program} {W:World}
theorem has_spot {r:Reach} {b0:Nat} {t e:TypeId} {a:Addr} {len cap:Nat} (ht:P.underlying t = some (.slice e)) (h:Value.okWide P W r b0 t (.slice (some a) len cap)):a.spot = none∧∃ c T fr,W.heap[a.block]? = some (.cells c T fr):=by
  unfold Value.okWide at h
  rw [ht] at h
  unfold Cell.okWide at h
  rw [ht] at h
  simp only at h
  unfold Cell.ok at h
  rw [ht] at h
  simp only at h
  obtain ⟨_,_,_,hs,row,cells,h1,_⟩:=h
  refine ⟨hs,?_⟩
  unfold World.shape? at h1
  split at h1
  · rename_i c T fr hq
    exact ⟨_,_,_,hq⟩
  · cases h1
theorem open_arg {τ:Type} {b0 m:Nat} {t e:TypeId} {ks:List FK} {enc':τ→List Value} {v:Value} {d:DataW H} {ps:List MemPlace} {ET:Nat} {EF:Nat × Nat} {X:Value} (ht:P.underlying t = some (.slice e)) (hm:P.cellsOf e = m) (hk:flatK P 9 e = some ks) (hpos:0 < m)
    (dec:∀ cs,rj ks cs→∃ x:τ,enc' x = cs) (hval:Value.okWide P W .any b0 t v) (hd:DataW.Trod enc P W 0 (fun _=>true) true t v d ps) (hz:W.noneFrozen ps)
    (hw:W.heap[0]? = some (.cells #[X] ET EF)) (hX:∀ k,¬ FK.ok k X):∃ (s:Sl) (xs:List τ),v = sv s∧Arg W m enc' s xs:=by
  obtain ⟨a0,len0,lV,rfl⟩:=okWide_slice ht hval
  obtain ⟨fuel,hf⟩:=hd
  rcases Go.Deep.open_slice ht hf with ⟨h1,_⟩ | ⟨a,len,cap,mm,n,D,Pl,h1,_,hl,_,hmm,hx,hi⟩
  · simp only [Value.cells,List.cons.injEq,Value.slice.injEq,and_true] at h1
    obtain ⟨rfl,rfl,rfl⟩:=h1
    exact ⟨⟨none,0,0,none⟩,[],rfl,rfl,Nat.le_refl _,.inl rfl⟩
  · simp only [Value.cells,List.cons.injEq,Value.slice.injEq,and_true] at h1
    obtain ⟨rfl,rfl,rfl⟩:=h1
    simp only [if_true] at hmm
    subst hmm
    obtain ⟨hs,c,T,fr,hb⟩:=has_spot ht hval
    obtain ⟨b,off,spot⟩:=a
    simp only at hs hb
    subst hs
    by_cases hc0:mm = 0
    · subst hc0
      obtain rfl:len0 = 0:=by omega
      exact ⟨⟨some (b,off),0,0,none⟩,[],rfl,rfl,Nat.le_refl _,.inl rfl⟩
    rw [hm] at hi hx
    have lr:∀ i,i < mm→∃ x:τ,(enc' x).length = m∧rj ks (enc' x)∧∀ j,j < m→c.toList[off + i * m + j]? = (enc' x)[j]?:=by
      intro i him
      obtain ⟨cs',h2,h3⟩:=hi i him
      obtain ⟨_,hlen,hget⟩:=World.cells?_some h2
      have hfit:=(trod_flat 9 e ks hk _ _ _ h3).1
      obtain ⟨x,rfl⟩:=dec cs' hfit
      refine ⟨x,hlen,hfit,fun j hj=>?_⟩
      have:=hget j hj
      rw [WideShapes.add_plain,WideShapes.add_plain] at this
      rw [← this]
      unfold World.cell?
      rw [hb]
      simp
    have hsize:off + mm * m ≤ c.toList.length:=by
      obtain ⟨x,hxl,_,hj⟩:=lr (mm - 1) (by omega)
      have h4:=hj (m - 1) (by omega)
      have h5:=(List.getElem?_eq_some_iff.1 (h4.trans (List.getElem?_eq_getElem (by omega)))).1
      have:mm * m = (mm - 1) * m + m:=by rw [← Nat.succ_mul]; congr 1; omega
      omega
    have hflat:∀ k,k ≤ mm→∃ ys:List τ,ys.length = k∧(c.toList.drop off).take (k * m) = ys.flatMap enc':=by
      intro k
      induction k with
      | zero=>exact fun _=>⟨[],rfl,by simp⟩
      | succ k ih =>
        intro hk1
        obtain ⟨ys,hy1,hy2⟩:=ih (by omega)
        obtain ⟨x,hxl,_,hj⟩:=lr k (by omega)
        refine ⟨ys++[x],by simp [hy1],?_⟩
        rw [Nat.succ_mul,List.take_add,hy2,List.flatMap_append]
        congr 1
        simp only [List.flatMap_cons,List.flatMap_nil,List.append_nil]
        apply List.ext_getElem?
        intro j
        rw [List.drop_drop,List.getElem?_take,List.getElem?_drop]
        by_cases hjm:j < m
        · rw [if_pos hjm,← hj j hjm]
        · rw [if_neg hjm,List.getElem?_eq_none (by omega)]
    obtain ⟨xs,hx1,hx2⟩:=hflat len0 hl
    have hlm:len0 * m ≤ mm * m:=Nat.mul_le_mul_right m hl
    refine ⟨⟨some (b,off),len0,mm,some (c.toList.take off,c.toList.drop (off + len0 * m),T,fr)⟩,xs,rfl,hx1.symm,hl,.inr ⟨b,c.toList.take off,c.toList.drop (off + len0 * m),T,fr,?_,?_,rfl,?_,?_,?_⟩⟩
    · rw [List.length_take,Nat.min_eq_left (by omega)]
    · show mm * m ≤ len0 * m + _
      rw [List.length_drop]; omega
    · rw [List.length_take,Nat.min_eq_left (by omega)]
      intro j j1 j2
      have j2':j < off + mm * m:=j2
      have hp:MemPlace.cell b j ∈ ps:=by
        have hps:=congrArg Prod.snd hx
        simp only at hps
        rw [hps]
        refine List.mem_append_left _ (List.mem_map.2 ⟨j - off,List.mem_range.2 (by omega),?_⟩)
        show MemPlace.cell b (off + (j - off)) = _
        congr 1; omega
      have:=hz b j hp
      unfold World.frozen? at this
      simp only [hb] at this
      exact this
    · rintro rfl
      rw [hw] at hb
      cases hb
      obtain ⟨x,hxl,hfit,hj⟩:=lr 0 (by omega)
      have h4:=hj 0 hpos
      simp only [Nat.zero_mul,Nat.add_zero] at h4
      cases hks:ks with
      | nil=>subst hks; have:=hfit.len; simp at this; simp [this] at hxl; omega
      | cons k ks' =>
        subst hks
        cases hex:enc' x with
        | nil=>rw [hex] at hxl; simp at hxl; omega
        | cons y ys =>
          rw [hex] at hfit h4
          simp only [List.getElem?_cons_zero] at h4
          have h5:y = X:=by
            cases off with
            | zero=>simpa using h4.symm
            | succ o=>simp at h4
          exact hX k (h5 ▸ hfit.1)
    · rw [hb]
      congr 2
      apply Array.ext'
      show c.toList = c.toList.take off++(xs.flatMap enc'++c.toList.drop (off + len0 * m))
      rw [← hx2,← List.drop_drop,List.take_append_drop,List.take_append_drop]
theorem open_struct {b0:Nat} {t:TypeId} {fs:Array Field} {ks:List FK} {v:Value} {d:DataW H} {ps:List MemPlace} (ht:P.underlying t = some (.struct fs)) (hk:flatK P 9 t = some ks) (hval:Value.okWide P W .any b0 t v) (hd:DataW.Trod enc P W 0 (fun _=>true) true t v d ps):∃ cs:List Value,v = .agg cs.toArray∧rj ks cs:=by
  obtain ⟨cs,rfl,_⟩:=okWide_struct ht hval
  obtain ⟨fuel,hf⟩:=hd
  exact ⟨cs.toList,by simp,(trod_flat 9 t ks hk _ _ _ hf).1⟩
theorem trodAll_stays (hl:laidOutB P = true) {W':World} {sp':Nat→Bool}:∀ {ts:List TypeId} {vs:List Value} {ds:List (DataW H)} {ps:List MemPlace},(∀ t ∈ ts,P.readableRec t = true∧t < P.types.size) →
    DataW.TrodAll enc P W 0 (fun _=>true) true ts vs ds ps→(∀ p ∈ ps,W.sameAt W' p)→(∀ p ∈ ps,sp' p.block = true)→DataW.TrodAll enc P W' 0 sp' true ts vs ds ps
  | [],_,_,_,_,h,_,_=>by
    obtain ⟨rfl,rfl,rfl⟩:=trodAll_nil h
    rfl
  | t::ts,_,_,_,hr,h,hs,hp=>by
    obtain ⟨v,vs,d,ds,a,b,rfl,rfl,rfl,h1,h2⟩:=trodAll_cons h
    exact ⟨a,b,Go.WideElems.Trod_stays hl (hr t (by simp)).1 (hr t (by simp)).2 h1 (fun p q=>hs p (by simp [q])) (fun p q=>hp p (by simp [q])),trodAll_stays hl (fun t q=>hr t (by simp [q])) h2 (fun p q=>hs p (by simp [q])) (fun p q=>hp p (by simp [q])),rfl⟩
end
end Go.Proofs.YtemoifebbhoinaaGreatDoor
namespace Go.Proofs.YtemoifebbhoinaaGreatDoor
open Go Mb Go.ChangeShapes Go.WideShapes Go.RowKit
theorem no_iface (k:FK):¬ FK.ok k (rtV gB):=by
  cases k with
  | i k=>rintro ⟨n,h,_⟩; cases h
  | b=>rintro ⟨x,h⟩; cases h
theorem fit_cons {k:FK} {ks:List FK} {cs:List Value} (h:rj (k::ks) cs):∃ v vs,cs = v::vs∧k.ok v∧rj ks vs:=by
  cases cs with
  | nil=>exact h.elim
  | cons v vs=>exact ⟨v,vs,rfl,h.1,h.2⟩
theorem wi {k:IntKind} {ks:List FK} {cs:List Value} (h:rj (.i k::ks) cs):∃ (n:Int) (vs:List Value),cs = .int k n::vs∧(Lit.int k n).wf = true∧rj ks vs:=by
  obtain ⟨v,vs,rfl,⟨n,rfl,hw⟩,hf⟩:=fit_cons h
  exact ⟨n,vs,rfl,hw,hf⟩
theorem fit_nil {cs:List Value} (h:rj [] cs):cs = []:=by
  cases cs with
  | nil=>rfl
  | cons v vs=>exact h.elim
theorem wf_u {n:Int} (h:(Lit.int .u64 n).wf = true):0 ≤ n∧n < 2 ^ 64:=by
  have:=(Lit.wf_int_iff .u64 n).1 h
  simp [IntKind.has,IntKind.min,IntKind.max,IntKind.signed,IntKind.bits] at this
  omega
theorem Arg.sub {τ:Type} {P:τ→Prop} {W:World} {m:Nat} {C:τ→List Value} {s:Sl} {xs:List {x:τ // P x}} (A:Arg W m (fun x=>C x.1) s xs):Arg W m C s (xs.map (·.1))∧∀ x ∈ xs.map (·.1),P x:=by
  refine ⟨⟨by simpa using A.len,A.cap,?_⟩,fun x hx=>?_⟩
  · have e:(xs.map (·.1)).flatMap C = xs.flatMap (fun x=>C x.1):=by rw [List.flatMap_map]
    rw [e]; exact A.row
  · obtain ⟨y,_,rfl⟩:=List.mem_map.1 hx
    exact y.2
structure Same (W W':World):Prop where
  os:W'.os = W.os
  out:W'.output = W.output
  heap:∀ i,i < W.heap.size→W'.heap[i]? = W.heap[i]?
theorem Same.cell {W W':World} (s:Same W W') {p:MemPlace} (h:p.block < W.heap.size):W.sameAt W' p:=by
  cases p with
  | cell b off =>
    show W'.cell? _ = W.cell? _
    unfold World.cell?
    rw [s.heap b h]
  | map b=>exact s.heap b h
theorem run_spV {τ:Type} {T m:Nat} {enc:τ→List Value} {s:Sl} {xs:List τ} {f:FuncId} {vs:List Value} {ET:Nat} {EF:Nat × Nat} {W:World} (A:Arg W m enc s xs)
    (c:Sp Tryz.prog f vs aA [etB ET EF,vec T m enc s xs] (fun r=>pa_ (r = true) [etB ET EF,vec T m enc s xs])) (hw:W.heap[0]? = some (.cells #[rtV gB] ET EF)) :
    Calls Tryz.prog f vs.toArray W fun e W'=>e = .returned (.bool true)∧Same W W':=by
  have key:∀ (g:Hp),g 0 = none→(∀ b o,g b = some o→W.heap[b]? = some o)→vec T m enc s xs g→(∀ g',vec T m enc s xs g'→∀ b o,g b = some o→g' b = some o) →
      Calls Tryz.prog f vs.toArray W fun e W'=>e = .returned (.bool true)∧Same W W':=by
    intro g g0 gW gv gk
    have hs:Sub (un (eq emp 0 (.cells #[rtV gB] ET EF)) g) W:=by
      intro b o ho
      by_cases hb:b = 0
      · subst hb; rw [un_left (jO _ _ _)] at ho; rw [hw]; exact ho
      · rw [un_right (qr _ _ _ hb)] at ho; exact gW b o ho
    have hd:Dj (eq emp 0 (.cells #[rtV gB] ET EF)) g:=fun b=>by
      by_cases hb:b = 0
      · subst hb; exact .inr g0
      · exact .inl (qr _ _ _ hb)
    have hst:aF [etB ET EF,vec T m enc s xs] (un (eq emp 0 (.cells #[rtV gB] ET EF)) g):=⟨_,_,hd,rfl,jO _ _ _,wA gv⟩
    refine (c _ hst W hs).mono ?_
    rintro e W' ⟨v,h',rfl,⟨r,rfl,q⟩,s',fr⟩
    obtain ⟨rfl,q⟩:=q
    obtain ⟨g1,a1,sub1⟩:=dX (i:=0) (A:=etB ET EF) rfl q
    obtain ⟨g2,a2,sub2⟩:=dX (i:=1) (A:=vec T m enc s xs) rfl q
    refine ⟨rfl,fr.os,fr.out,fun i hi=>?_⟩
    rcases Nat.eq_zero_or_pos i with rfl | hp
    · rw [s' _ _ (sub1 _ _ a1),hw]
    · cases hg:g i with
      | none=>exact fr.same i hi (tX.2 ⟨qr _ _ _ (by omega),hg⟩)
      | some o=>rw [s' _ _ (sub2 _ _ (gk g2 a2 i o hg)),gW i o hg]
  rcases A.row with h0 | ⟨b,pre,rest,U,fr,h1,h2,h3,h4,h5,h6⟩
  · exact key emp rfl (fun b o h=>by cases h) ⟨A.len,A.cap,.inl h0⟩ (fun _ _ b o h=>by cases h)
  · by_cases h0:s.cap = 0
    · exact key emp rfl (fun b o h=>by cases h) ⟨A.len,A.cap,.inl h0⟩ (fun _ _ b o h=>by cases h)
    · refine key (eq emp b (.cells (pre++(xs.flatMap enc++rest)).toArray U fr)) (qr _ _ _ (Ne.symm h5)) ?_ ⟨A.len,A.cap,.inr ⟨b,pre,rest,U,fr,h1,h2,?_,jO _ _ _⟩⟩ ?_
      · intro b' o ho
        unfold eq at ho
        split at ho
        · rename_i hb; subst hb; rw [h6]; exact ho
        · cases ho
      · unfold gh; rw [h3]; exact ⟨rfl,h4⟩
      · rintro g' ⟨_,_,r⟩ b' o ho
        rcases r with r | ⟨c',pre',rest',U',fr',r1,_,r3,r4⟩
        · exact absurd r h0
        · rw [h1] at r1
          unfold gh at r3
          rw [h3] at r3
          obtain ⟨r5,_⟩:=r3
          simp only [Prod.mk.injEq] at r5
          obtain ⟨rfl,rfl,rfl,rfl⟩:=r5
          simp only [Option.some.injEq,Prod.mk.injEq] at r1
          obtain ⟨rfl,_⟩:=r1
          unfold eq at ho
          split at ho
          · rename_i hb; subst hb; cases ho; exact r4
          · cases ho
theorem same_post {H:Type} {enc:TypeId × Value→H} {W W':World} {ts:List TypeId} {vs:List Value} {ds:List (DataW H)} {ps:List MemPlace} {sp:Nat→Bool} (hl:laidOutB Tryz.prog = true) (hr:(ts.all fun t=>Tryz.prog.readableRec t && decide (t < Tryz.prog.types.size)) = true)
    (h:DataW.TrodAll enc Tryz.prog W 0 (fun _=>true) true ts vs ds ps) (hlt:∀ p ∈ ps,p.block < W.heap.size) (s:Same W W') (hs:∀ p ∈ ps,sp p.block = true):DataW.TrodAll enc Tryz.prog W' 0 sp true ts vs ds ps :=
  trodAll_stays hl (fun t ht=>by
    have:=List.all_eq_true.1 hr t ht
    simp only [Bool.and_eq_true,decide_eq_true_eq] at this
    exact this) h (fun p hp=>s.cell (hlt p hp)) hs
theorem want_all {ts:List TypeId} (h:(ts.all fun t=>!(Tryz.prog.wantsStandIn t)) = true) {j:Nat} {t:TypeId} (ht:ts.toArray[j]? = some t):Tryz.prog.wantsStandIn t = false:=by
  have:=List.all_eq_true.1 h t (List.mem_of_getElem? (by simpa using ht))
  simpa using this
end Go.Proofs.YtemoifebbhoinaaGreatDoor
namespace Go.Proofs.YtemoifebbhoinaaGreatDoor
open Go Mb
theorem mod_in (x:Int) {n:Int} (h:1 ≤ n∧n ≤ 100):0 ≤ (IntKind.i64.wrap (x.tmod n + n)).tmod n∧(IntKind.i64.wrap (x.tmod n + n)).tmod n < n:=by
  have h1:=Int.tmod_lt_of_pos x (show (0:Int) < n by omega)
  have h2:-n < x.tmod n:=by
    have:=Int.tmod_lt_of_pos (-x) (show (0:Int) < n by omega)
    rw [Int.neg_tmod] at this
    omega
  rw [bP (by omega) (by omega)]
  exact ⟨Int.tmod_nonneg _ (by omega),Int.tmod_lt_of_pos _ (by omega)⟩
end Go.Proofs.YtemoifebbhoinaaGreatDoor
namespace Go.Proofs.YtemoifebbhoinaaGreatDoor
open Go Mb
def KK.pick (k:KK) (p:ri):Bool × KK:=if p.fKind = 1 then KK.begin_ k p.fCore p.fEnv p.fCall else if p.fKind = 2 then KK.step k p.fCore else if p.fKind = 3 then KK.post k p.fCore else if p.fKind = 4 then KK.evict k p.fCore p.fSet p.fWay else (false,k)
theorem sp_Do (x:Ptr) (k:KK) (p:ri) (hn:k.now < 2 ^ 36):Sp Tryz.prog nI [pv x,.agg p.C.toArray] aA [de x k] (fun r=>pa_ (r = (KK.pick k p).1) [de x (KK.pick k p).2]):=by
  intro h st
  refine sim_messuagelaw16_Do _ _ ?_
  unfold rN
  refine aY (fun c=>?_) (fun c=>?_)
  · have c':p.fKind = 1:=by simpa using c
    have e:KK.pick k p = KK.begin_ k p.fCore p.fEnv p.fCall:=by unfold KK.pick; rw [if_pos c']
    rw [e]
    exact bR (i:=0) (sp_kern_Begin x k p.fCore p.fEnv p.fCall (by omega)) rfl st fun r h1 hr s1=>aZ hr s1
  · have c1:p.fKind ≠ 1:=by simpa using c
    refine aY (fun c=>?_) (fun c=>?_)
    · have c':p.fKind = 2:=by simpa using c
      have e:KK.pick k p = KK.step k p.fCore:=by unfold KK.pick; rw [if_neg c1,if_pos c']
      rw [e]
      exact bR (i:=0) (sp_kern_Step x k p.fCore (by omega)) rfl st fun r h1 hr s1=>aZ hr s1
    · have c2:p.fKind ≠ 2:=by simpa using c
      refine aY (fun c=>?_) (fun c=>?_)
      · have c':p.fKind = 3:=by simpa using c
        have e:KK.pick k p = KK.post k p.fCore:=by unfold KK.pick; rw [if_neg c1,if_neg c2,if_pos c']
        rw [e]
        exact bR (i:=0) (sp_kern_Post x k p.fCore (by omega)) rfl st fun r h1 hr s1=>aZ hr s1
      · have c3:p.fKind ≠ 3:=by simpa using c
        refine aY (fun c=>?_) (fun c=>?_)
        · have c':p.fKind = 4:=by simpa using c
          have e:KK.pick k p = KK.evict k p.fCore p.fSet p.fWay:=by unfold KK.pick; rw [if_neg c1,if_neg c2,if_neg c3,if_pos c']
          rw [e]
          exact bR (i:=0) (sp_kern_Evict x k p.fCore p.fSet p.fWay (by omega)) rfl st fun r h1 hr s1=>aZ hr s1
        · have c4:p.fKind ≠ 4:=by simpa using c
          have e:KK.pick k p = (false,k):=by unfold KK.pick; rw [if_neg c1,if_neg c2,if_neg c3,if_neg c4]
          rw [e]
          exact aZ rfl st
theorem IE.pick {k:KK} (A:IE k) (hn:k.now < 2 ^ 40) {p:ri} (cw:Cw p.fCall):IE (KK.pick k p).2:=by
  unfold KK.pick
  split
  · exact A.begin hn _ _ cw
  · split
    · exact A.step hn _
    · split
      · exact A.post hn _
      · split
        · exact A.evict hn _ _ _
        · exact A
structure Picked (p:ri) (k k':KK):Prop where
  len:k'.calls.length = k.calls.length
  s:k'.p.s = k.p.s
  lo:k.now ≤ k'.now
  now:k'.now ≤ k.now + 1
  calls:∀ (d:Nat) y,k'.calls[d]? = some (some y)→(∃ x,k.calls[d]? = some (some x)∧(x.fc.e0 ≠ 9→y.fc = x.fc))∨(y.fc = p.fCall∧p.fKind = 1)
theorem step_s {k:KK} (c:Int):(KK.step k c).2.p.s = k.p.s:=by
  unfold KK.step
  split
  · rfl
  · split
    · rfl
    · rename_i x _
      unfold KK.work
      split
      · exact (access_keep (KK.tick k) c x).2.2.1
      · split
        · rfl
        · split
          · rfl
          · split
            · exact do_s _ _ _
            · exact do_s _ _ _
theorem pick_picked {k:KK} (A:IE k) (hn:k.now < 2 ^ 38) (p:ri):Picked p k (KK.pick k p).2:=by
  have ht:(KK.tick k).now = k.now + 1:=tick_now A.inv.ok (by omega)
  have hw:IntKind.i64.wrap (k.now + 1) = k.now + 1:=ht
  have same:∀ (d:Nat) y,k.calls[d]? = some (some y)→(∃ x,k.calls[d]? = some (some x)∧(x.fc.e0 ≠ 9→y.fc = x.fc))∨(y.fc = p.fCall∧p.fKind = 1):=fun d y h=>.inl ⟨y,h,fun _=>rfl⟩
  unfold KK.pick
  split
  · rename_i hk
    unfold KK.begin_
    split
    · exact ⟨rfl,rfl,Int.le_refl _,by show k.now ≤ k.now + 1; omega,same⟩
    · refine ⟨by simp,rfl,by show k.now ≤ IntKind.i64.wrap (k.now + 1); omega,by show IntKind.i64.wrap (k.now + 1) ≤ _; omega,fun d y h=>?_⟩
      have h':(k.calls.set p.fCore.toNat (some ⟨k.events.length,p.fEnv,p.fCall,false,0⟩))[d]? = some (some y):=h
      rw [List.getElem?_set] at h'
      split at h'
      · split at h'
        · simp only [Option.some.injEq] at h'
          rw [← h']; exact .inr ⟨rfl,hk⟩
        · cases h'
      · exact same d y h'
  · split
    · by_cases hb:KK.busy k p.fCore = true
      · obtain ⟨hi,x,hx⟩:=busy_is hb
        obtain ⟨n,e,hlt⟩:=qI hi
        rw [e] at hx ⊢
        have hcx:=kcall_nat hx
        obtain ⟨S,s1,_⟩:=step_stepped A.inv hlt hcx
        have hnn:=KK.step_now A.inv.ok.n0 hn (n:Int)
        refine ⟨S.len,step_s _,hnn.1,hnn.2,fun d y h=>?_⟩
        by_cases ed:d = n
        · subst ed
          refine .inl ⟨x,hcx,fun h9=>?_⟩
          rcases s1 h9 with g | ⟨z,g1,_,g3⟩
          · rw [g] at h; cases h
          · rw [g1] at h; cases h; exact g3
        · rw [S.other d ed] at h; exact same d y h
      · have e:KK.step k p.fCore = (false,k):=by unfold KK.step; rw [if_pos (by simpa using hb)]
        rw [e]
        exact ⟨rfl,rfl,Int.le_refl _,by show k.now ≤ k.now + 1; omega,same⟩
    · split
      · have hnn:=KK.post_now A.inv.ok.n0 hn p.fCore
        have e:(KK.post k p.fCore).2.calls = k.calls∧(KK.post k p.fCore).2.p.s = k.p.s:=by
          unfold KK.post
          split
          · exact ⟨rfl,rfl⟩
          · split <;> exact ⟨rfl,rfl⟩
        exact ⟨by rw [e.1],e.2,hnn.1,hnn.2,by rw [e.1]; exact same⟩
      · split
        · unfold KK.evict
          split
          · exact ⟨rfl,rfl,Int.le_refl _,by show k.now ≤ k.now + 1; omega,same⟩
          · split
            · exact ⟨rfl,rfl,Int.le_refl _,by show k.now ≤ k.now + 1; omega,same⟩
            · exact ⟨rfl,rfl,by show k.now ≤ IntKind.i64.wrap (k.now + 1); omega,by show IntKind.i64.wrap (k.now + 1) ≤ _; omega,same⟩
        · exact ⟨rfl,rfl,Int.le_refl _,by show k.now ≤ k.now + 1; omega,same⟩
theorem size_in (z:eH):PK.sized (bK z) = true∧1 ≤ (bK z).fCores∧(bK z).fCores ≤ 4∧1 ≤ (bK z).fEnvs∧(bK z).fEnvs ≤ 3:=by
  have h1:=mod_in z.fCores (n:=4) (by decide)
  have h2:=mod_in z.fEnvs (n:=3) (by decide)
  have h3:=mod_in z.fFrames (n:=6) (by decide)
  rw [fV]
  unfold bK
  dsimp only
  generalize (IntKind.i64.wrap (z.fCores.tmod 4 + 4)).tmod 4 = a at *
  generalize (IntKind.i64.wrap (z.fEnvs.tmod 3 + 3)).tmod 3 = b at *
  generalize (IntKind.i64.wrap (z.fFrames.tmod 6 + 6)).tmod 6 = c at *
  rw [bP (n:=1 + a) (by omega) (by omega),bP (n:=1 + b) (by omega) (by omega),bP (n:=1 + c) (by omega) (by omega)]
  omega
theorem cw_of {p:ri} (h:rj [.i .i64,.i .i64,.i .i64,.i .u64,.i .u64,.i .u64,.i .u64,.i .u64,.i .i64,.i .i64] (ci.C p)):Cw p.fCall:=by
  obtain ⟨_,_,_,⟨n0,e0,w0⟩,⟨n1,e1,w1⟩,⟨n2,e2,w2⟩,⟨n3,e3,w3⟩,⟨n4,e4,w4⟩,_⟩:=h
  injection e0 with _ e0
  injection e1 with _ e1
  injection e2 with _ e2
  injection e3 with _ e3
  injection e4 with _ e4
  exact ⟨by rw [e0]; exact (wf_u w0).1,by rw [e1]; exact (wf_u w1).1,by rw [e2]; exact (wf_u w2).1,by rw [e3]; exact (wf_u w3).1,by rw [e4]; exact (wf_u w4).1⟩
end Go.Proofs.YtemoifebbhoinaaGreatDoor
namespace Go.Proofs.YtemoifebbhoinaaGreatDoor
open Go Mb
variable {ET:Nat} {EF:Nat × Nat}
structure Behind (z:eH) (n:Nat) (k:KK):Prop where
  ie:IE k
  s:k.p.s = z
  now:k.now ≤ n
theorem Behind.pick {z:eH} {n:Nat} {k:KK} (B:Behind z n k) (hn:n < 1000) {p:ri} (cw:Cw p.fCall):Behind z (n + 1) (KK.pick k p).2:=by
  have hk:k.now < 2 ^ 38:=by have:=B.now; omega
  have P:=pick_picked B.ie hk p
  exact ⟨B.ie.pick (by omega) cw,P.s.trans B.s,by have:=P.now; have:=B.now; omega⟩
theorem behind_new {z:eH} (h:PK.sized z = true):Behind z 0 (KK.new z):=⟨ie_new h,rfl,Int.le_refl _⟩
theorem Behind.lens {z:eH} {n:Nat} {k:KK} (B:Behind z n k):(k.calls.length:Int) = z.fCores∧(k.epochs.1.length:Int) ≤ n∧(k.events.length:Int) ≤ n:=by
  have h1:=B.ie.inv.ok.cl
  have h2:=B.ie.inv.ok.epn
  have h3:=B.ie.inv.ok.evn
  have:=B.now
  rw [← B.s]
  have h5:=fV.1 B.ie.inv.ok.p.sz
  omega
def Awake (k:KK):Prop:=∀ (d:Nat) x,k.calls[d]? = some (some x)→x.fc.e0 ≠ 9
theorem Awake.pick {k:KK} (W:Awake k) (A:IE k) (hn:k.now < 2 ^ 38) {p:ri} (h:p.fKind ≠ 1∨p.fCall.e0 ≠ 9):Awake (KK.pick k p).2:=by
  intro d y hy
  rcases (pick_picked A hn p).calls d y hy with ⟨x,hx,e⟩ | ⟨e,hk⟩
  · have h9:=W d x hx
    rw [e h9]; exact h9
  · rw [e]
    rcases h with h | h
    · exact absurd hk h
    · exact h
end Go.Proofs.YtemoifebbhoinaaGreatDoor
namespace Go.Proofs.YtemoifebbhoinaaGreatDoor
open Go Mb
set_option linter.unusedVariables false
def eo (a0:Sl) (K:Bool→Hp→Prop) (Rec2:Int→Hp→Prop) (s1:Int) (x17:aB) (Rec62:Int→Hp→Prop) (s61:Int):Hp→Prop:=br (decide (s61 < s1)) ( ix a0 s61 fun q109=>ld (q109.1,q109.2 + Int.toNat s61 * 16 + 8) (cI .i64) fun x111=>br (decide (x111 > 0)) ( ld (q109.1,q109.2 + Int.toNat s61 * 16 + 8) (cI .i64) fun x118=>br (x118 == x17.fEffect) ( K false) ( ld (q109.1,q109.2 + Int.toNat s61 * 16 + 0) (cI .i64) fun x128=>br (x128 == x17.fCore) ( ld (q109.1,q109.2 + Int.toNat s61 * 16 + 9) (cI .i64) fun x137=>br (x137 == 0) ( K false) ( ld (q109.1,q109.2 + Int.toNat s61 * 16 + 9) (cI .i64) fun x144=>br (decide (x144 ≥ x17.fBegin)) ( K false) ( Rec62 (IntKind.i64.wrap (s61 + 1))))) ( Rec62 (IntKind.i64.wrap (s61 + 1))))) ( ld (q109.1,q109.2 + Int.toNat s61 * 16 + 0) (cI .i64) fun x128=>br (x128 == x17.fCore) ( ld (q109.1,q109.2 + Int.toNat s61 * 16 + 9) (cI .i64) fun x137=>br (x137 == 0) ( K false) ( ld (q109.1,q109.2 + Int.toNat s61 * 16 + 9) (cI .i64) fun x144=>br (decide (x144 ≥ x17.fBegin)) ( K false) ( Rec62 (IntKind.i64.wrap (s61 + 1))))) ( Rec62 (IntKind.i64.wrap (s61 + 1))))) ( Rec2 (IntKind.i64.wrap (s1 + 1)))
def jL (a0:Sl) (K:Bool→Hp→Prop) (Rec2:Int→Hp→Prop) (s1:Int) (x17:aB) (Rec127:Int→Hp→Prop) (s126:Int):Hp→Prop:=br (decide (s126 < s1)) ( ix a0 s126 fun q109=>ld (q109.1,q109.2 + Int.toNat s126 * 16 + 8) (cI .i64) fun x111=>br (decide (x111 > 0)) ( ld (q109.1,q109.2 + Int.toNat s126 * 16 + 8) (cI .i64) fun x118=>br (x118 == x17.fEffect) ( K false) ( ld (q109.1,q109.2 + Int.toNat s126 * 16 + 0) (cI .i64) fun x128=>br (x128 == x17.fCore) ( ld (q109.1,q109.2 + Int.toNat s126 * 16 + 9) (cI .i64) fun x137=>br (x137 == 0) ( K false) ( ld (q109.1,q109.2 + Int.toNat s126 * 16 + 9) (cI .i64) fun x144=>br (decide (x144 ≥ x17.fBegin)) ( K false) ( Rec127 (IntKind.i64.wrap (s126 + 1))))) ( Rec127 (IntKind.i64.wrap (s126 + 1))))) ( ld (q109.1,q109.2 + Int.toNat s126 * 16 + 0) (cI .i64) fun x128=>br (x128 == x17.fCore) ( ld (q109.1,q109.2 + Int.toNat s126 * 16 + 9) (cI .i64) fun x137=>br (x137 == 0) ( K false) ( ld (q109.1,q109.2 + Int.toNat s126 * 16 + 9) (cI .i64) fun x144=>br (decide (x144 ≥ x17.fBegin)) ( K false) ( Rec127 (IntKind.i64.wrap (s126 + 1))))) ( Rec127 (IntKind.i64.wrap (s126 + 1))))) ( Rec2 (IntKind.i64.wrap (s1 + 1)))
def jM (a0:Sl) (a1:au) (K:Bool→Hp→Prop) (Rec2:Int→Hp→Prop) (s1:Int):Hp→Prop:=br (decide (s1 < (a0.len:Int))) ( ix a0 s1 fun q16=>ld (q16.1,q16.2 + Int.toNat s1 * 16) aB.C fun x17=>br (decide (x17.fCore < 0)) ( K false) ( br (decide (x17.fCore ≥ a1.fCores)) ( K false) ( br (decide (x17.fEnv < 0)) ( K false) ( br (decide (x17.fEnv ≥ a1.fEnvs)) ( K false) ( br (decide (x17.fBegin < 1)) ( K false) ( br (decide (s1 > 0)) ( ix a0 (IntKind.i64.wrap (s1 - 1)) fun q54=>ld (q54.1,q54.2 + Int.toNat (IntKind.i64.wrap (s1 - 1)) * 16 + 7) (cI .i64) fun x56=>br (decide (x17.fBegin ≤ x56)) ( K false) ( br (((((decide (x17.fEnd < 0)) || (decide (x17.fEffect < 0))) || ((decide (x17.fEnd > 0)) && (x17.fEffect == 0))) || ((decide (x17.fEffect > 0)) && (decide (x17.fEffect < x17.fBegin)))) || ((decide (x17.fEnd > 0)) && (decide (x17.fEffect > x17.fEnd)))) ( K false) ( Lp (eo a0 K Rec2 s1 x17) 0))) ( br (((((decide (x17.fEnd < 0)) || (decide (x17.fEffect < 0))) || ((decide (x17.fEnd > 0)) && (x17.fEffect == 0))) || ((decide (x17.fEffect > 0)) && (decide (x17.fEffect < x17.fBegin)))) || ((decide (x17.fEnd > 0)) && (decide (x17.fEffect > x17.fEnd)))) ( K false) ( Lp (jL a0 K Rec2 s1 x17) 0)))))))) ( K true)
def nZ (a0:Sl) (a1:au) (K:Bool→Hp→Prop):Hp→Prop:=Lp (jM a0 a1 K) 0
theorem uT (a0:Sl) (a1:au) {K:Bool→Hp→Prop} {h:Hp} (H:nZ a0 a1 K h):Ct Tryz.prog gZ #[(sv a0),(.agg (au.C a1).toArray)] h fun v h'=>∃ r,v = aA r∧K r h':=aw [(sv a0),(.agg (au.C a1).toArray)] Tryz.func26 c c c fun _=>M<|aa<|cA (l:=au.C a1) c c c fun b3=>O c<|ak<|M<|O c<|ax<|bG (step:=jM a0 a1 K) (fun s1=>[(0,(sv a0)),(3,(.pointer (some ⟨b3,0,none⟩))),(5,(.int .i64 s1))]) (fun s1=>[bx b3 25 (au.C a1)]) H (.cons c<|.cons c<|.cons c<|.nil _) (.cons_cons _ .slnil) fun Rec2 s1 _ H3=>ak<|M<|J c<|J c<|p (dl c Tryz.underlying42 c)<|p (cq c c)<|ad<|av c H3 (fun k4 H5=>an<|ak<|ax<|M<|J c<|J c<|ck H5 fun q16 e6 h7 H8=>p (bh fu (aK c<|aX e6) c h7)<|aa<|gI H8 ag_56 c (fun _=>c) c fun x17 H9=>aa<|aP (l:=aB.C (⟨0,0,(⟨0,0,0,0,0⟩:ai),0,0,0,(⟨0,0⟩:ac),(⟨0,0,0,0⟩:am)⟩:aB)) zero_56 c c fun b6=>aa<|aR (k:=0) (vs:=aB.C x17) inf_56 c c c c c c c<|ad<|ak<|ak<|bm (n:=42) [bx b6 56 (aB.C x17),bx b3 25 (au.C a1)] cn c (.cons_cons _<|.cons_cons _ .slnil)<|U 0 c (ae fT c)<|z_E 1 c (cx (k:=0) aS c c c)<|U 2 c (cq c c)<|U 3 c (ag c)<|eY H9 (fun k10 H11=>Z 4 c (bb k10)<|Z 5 c (bb k10)<|Z 6 c (bb k10)<|Z 7 c (bb k10)<|Z 8 c (bb k10)<|U 9 c (aI c k10 c)<|U 10 c (ag c)<|Z 11 c c<|Z 12 c c<|Z 13 c c<|U 14 c (aI c c c)<|U 15 c (ag c)<|Z 16 c c<|Z 17 c c<|Z 18 c c<|Z 19 c c<|Z 20 c c<|U 21 c (aI c c c)<|U 22 c (ag c)<|Z 23 c c<|Z 24 c c<|Z 25 c c<|U 26 c (aI c c c)<|U 27 c (ag c)<|Z 28 c c<|Z 29 c c<|Z 30 c c<|Z 31 c (bD _)<|Z 32 c (bD _)<|Z 33 c (bD _)<|Z 34 c (bD _)<|Z 35 c (bD _)<|Z 36 c (bD _)<|Z 37 c (bD _)<|Z 38 c (bD _)<|Z 39 c (bD _)<|Z 40 c c<|U 41 c (aI c c c)<|aO (by kernel_rfl)<|fG c c<|M<|O c<|ah<|D ⟨false,c,H11⟩) fun k10 H11=>I 4 c (Y k10) (ve<|ae fT c)<|I 5 c (Y k10) (cx (k:=0) aS c c c)<|I 6 c (Y k10) (ve<|ae lS c)<|I 7 c (Y k10) (cx (k:=1) aS c c c)<|I 8 c (Y k10) (ve<|ij c c)<|U 9 c (ao c k10 c)<|U 10 c (ag c)<|eY H11 (fun k12 H13=>Z 11 c (bb k12)<|Z 12 c (bb k12)<|Z 13 c (bb k12)<|U 14 c (aI c k12 c)<|U 15 c (ag c)<|Z 16 c c<|Z 17 c c<|Z 18 c c<|Z 19 c c<|Z 20 c c<|U 21 c (aI c c c)<|U 22 c (ag c)<|Z 23 c c<|Z 24 c c<|Z 25 c c<|U 26 c (aI c c c)<|U 27 c (ag c)<|Z 28 c c<|Z 29 c c<|Z 30 c c<|Z 31 c (bD _)<|Z 32 c (bD _)<|Z 33 c (bD _)<|Z 34 c (bD _)<|Z 35 c (bD _)<|Z 36 c (bD _)<|Z 37 c (bD _)<|Z 38 c (bD _)<|Z 39 c (bD _)<|Z 40 c c<|U 41 c (aI c c c)<|aO (by kernel_rfl)<|fG c c<|M<|O c<|ah<|D ⟨false,c,H13⟩) fun k12 H13=>I 11 c (Y k12) (ve<|ae kF c)<|I 12 c (Y k12) (cx (k:=0) aS c c c)<|I 13 c (Y k12) (ve<|cq c c)<|U 14 c (ao c k12 c)<|U 15 c (ag c)<|eY H13 (fun k14 H15=>Z 16 c (bb k14)<|Z 17 c (bb k14)<|Z 18 c (bb k14)<|Z 19 c (bb k14)<|Z 20 c (bb k14)<|U 21 c (aI c k14 c)<|U 22 c (ag c)<|Z 23 c c<|Z 24 c c<|Z 25 c c<|U 26 c (aI c c c)<|U 27 c (ag c)<|Z 28 c c<|Z 29 c c<|Z 30 c c<|Z 31 c (bD _)<|Z 32 c (bD _)<|Z 33 c (bD _)<|Z 34 c (bD _)<|Z 35 c (bD _)<|Z 36 c (bD _)<|Z 37 c (bD _)<|Z 38 c (bD _)<|Z 39 c (bD _)<|Z 40 c c<|U 41 c (aI c c c)<|aO (by kernel_rfl)<|fG c c<|M<|O c<|ah<|D ⟨false,c,H15⟩) fun k14 H15=>I 16 c (Y k14) (ve<|ae kF c)<|I 17 c (Y k14) (cx (k:=0) aS c c c)<|I 18 c (Y k14) (ve<|ae kH c)<|I 19 c (Y k14) (cx (k:=1) aS c c c)<|I 20 c (Y k14) (ve<|ij c c)<|U 21 c (ao c k14 c)<|U 22 c (ag c)<|eY H15 (fun k16 H17=>Z 23 c (bb k16)<|Z 24 c (bb k16)<|Z 25 c (bb k16)<|U 26 c (aI c k16 c)<|U 27 c (ag c)<|Z 28 c c<|Z 29 c c<|Z 30 c c<|Z 31 c (bD _)<|Z 32 c (bD _)<|Z 33 c (bD _)<|Z 34 c (bD _)<|Z 35 c (bD _)<|Z 36 c (bD _)<|Z 37 c (bD _)<|Z 38 c (bD _)<|Z 39 c (bD _)<|Z 40 c c<|U 41 c (aI c c c)<|aO (by kernel_rfl)<|fG c c<|M<|O c<|ah<|D ⟨false,c,H17⟩) fun k16 H17=>I 23 c (Y k16) (ve<|ae gu c)<|I 24 c (Y k16) (cx (k:=0) aS c c c)<|I 25 c (Y k16) (ve<|cq c c)<|U 26 c (ao c k16 c)<|U 27 c (ag c)<|eY H17 (fun k18 H19=>Z 28 c (bb k18)<|Z 29 c (bb k18)<|Z 30 c (bb k18)<|Z 31 c (bD _)<|Z 32 c (bD _)<|Z 33 c (bD _)<|Z 34 c (bD _)<|Z 35 c (bD _)<|Z 36 c (bD _)<|Z 37 c (bD _)<|Z 38 c (bD _)<|Z 39 c (bD _)<|Z 40 c (bb k18)<|U 41 c (aI c k18 c)<|aO (by kernel_rfl)<|fG c c<|M<|O c<|ah<|D ⟨false,c,H19⟩) fun k18 H19=>I 28 c (Y k18) (ve<|ag c)<|I 29 c (Y k18) (ve<|kP c c)<|I 30 c (Y k18) (ve<|ag c)<|eY H19 (fun k20 H21=>I 31 c (Y k20) (ve<|ae gu c)<|I 32 c (Y k20) (cx (k:=0) aS c c c)<|I 33 c (Y k20) (ve<|ag c)<|I 34 c (Y k20) (ve<|ag c)<|I 35 c (Y k20) (ve<|vp c c)<|fF H21 fun q54 e22 h23 H24=>I 36 c (Y k20) (ve<|bh fu (aK c<|aX e22) c h23)<|I 37 c (Y k20) (ve<|ae gu c)<|eu (i:=38) (fun _ _ _ _ hh=>hh) H24 c (by kernel_rfl) c c c (Y k20) aS c (fun _=>c) c fun x56 H25=>I 39 c (Y k20) (ve<|v_le c c)<|I 40 c (Y k18) (ve<|aI c k20 c)<|U 41 c (ao c k18 c)<|aO (by kernel_rfl)<|av c H25 (fun k26 H27=>M<|O c<|ah<|D ⟨false,c,H27⟩) fun k26 H27=>an<|ak<|M<|p (ae dM c)<|bf (ba (k:=0) aS c c c) c<|p (cq c c)<|J c<|V c c (aG _) (fun g28=>wv<|ae db c)<|V c c (aG _) (fun g29=>cv<|ba (k:=0) aS (az c g29) c c)<|V c c (aG _) (fun g30=>wv<|cq (az c g30) c)<|p (cZ c c)<|J c<|V c c (aG _) (fun g31=>wv<|ae dM c)<|V c c (aG _) (fun g32=>cv<|ba (k:=0) aS (az c g32) c c)<|V c c (aG _) (fun g33=>wv<|kP (az c g33) c)<|V c c (aG _) (fun g34=>wv<|ag<|az c g34)<|V c c (dO _ _) (fun g35=>wv<|ae db c)<|V c c (dO _ _) (fun g36=>cv<|ba (k:=0) aS (az c g36) c c)<|V c c (dO _ _) (fun g37=>wv<|bH (az c g37) c)<|V c c (aG _) (fun g38=>wv<|bO (az c g38)<|aK c<|nP g38)<|p (cZ c c)<|J c<|V c c (aG _) (fun g39=>wv<|ae db c)<|V c c (aG _) (fun g40=>cv<|ba (k:=0) aS (az c g40) c c)<|V c c (aG _) (fun g41=>wv<|kP (az c g41) c)<|V c c (aG _) (fun g42=>wv<|ag<|az c g42)<|V c c (dO _ _) (fun g43=>wv<|ae db c)<|V c c (dO _ _) (fun g44=>cv<|ba (k:=0) aS (az c g44) c c)<|V c c (dO _ _) (fun g45=>wv<|ae gu c)<|V c c (dO _ _) (fun g46=>cv<|ba (k:=0) aS (az c g46) c c)<|V c c (dO _ _) (fun g47=>wv<|cq (az c g47)<|az c g47)<|V c c (aG _) (fun g48=>wv<|bO (az c g48)<|aK c<|nP g48)<|p (cZ c c)<|J c<|V c c (aG _) (fun g49=>wv<|ae dM c)<|V c c (aG _) (fun g50=>cv<|ba (k:=0) aS (az c g50) c c)<|V c c (aG _) (fun g51=>wv<|kP (az c g51) c)<|V c c (aG _) (fun g52=>wv<|ag<|az c g52)<|V c c (dO _ _) (fun g53=>wv<|ae db c)<|V c c (dO _ _) (fun g54=>cv<|ba (k:=0) aS (az c g54) c c)<|V c c (dO _ _) (fun g55=>wv<|ae dM c)<|V c c (dO _ _) (fun g56=>cv<|ba (k:=0) aS (az c g56) c c)<|V c c (dO _ _) (fun g57=>wv<|kP (az c g57)<|az c g57)<|V c c (aG _) (fun g58=>wv<|bO (az c g58)<|aK c<|nP g58)<|p (cZ c c)<|ad<|av c H27 (fun k59 H60=>M<|O c<|ah<|D ⟨false,c,H60⟩) fun k59 H60=>an<|M<|O c<|ax<|bG (step:=eo a0 K Rec2 s1 x17) (fun s61=>[(0,(sv a0)),(3,(.pointer (some ⟨b3,0,none⟩))),(5,(.int .i64 s1)),(6,(.pointer (some ⟨b6,0,none⟩))),(7,(.int .i64 s61))]) (fun s61=>[bx b6 56 (aB.C x17),bx b3 25 (au.C a1)]) H60 (.cons c<|.cons c<|.cons c<|.cons c<|.cons c<|.nil _) (.cons_cons _<|.cons_cons _ .slnil) fun Rec62 s61 _ H63=>ak<|M<|J c<|J c<|p (cq c c)<|ad<|av c H63 (fun k64 H65=>an<|ak<|ax<|ak<|bm (n:=44) [bx b6 56 (aB.C x17)] cn c (.cons_cons _<|.cons _ .slnil)<|U 0 c (ag c)<|U 1 c (ag c)<|fF H65 fun q109 e66 h67 H68=>U 2 c (bh fu (aK c<|aX e66) c h67)<|U 3 c (ae db c)<|bJ (i:=4) (fun _ _ _ _ hh=>hh) H68 c (by kernel_rfl) aS c (fun _=>c) c fun x111 H69=>U 5 c (kP c c)<|U 6 c (ag c)<|eY H69 (fun k70 H71=>I 7 c (Y k70) (ve<|ag c)<|I 8 c (Y k70) (ve<|ag c)<|I 9 c (Y k70) (ve<|bh fu (aK c<|aX e66) c h67)<|I 10 c (Y k70) (ve<|ae db c)<|I 12 c (Y k70) (ve<|ae db c)<|I 13 c (Y k70) (cx (k:=0) aS c c c)<|eu (i:=11) (fun _ _ _ _ hh=>hh) H71 c (by kernel_rfl) c c c (Y k70) aS c (fun _=>c) c fun x118 H72=>I 14 c (Y k70) (ve<|bH c c)<|U 15 c (aI c k70 c)<|U 16 c (ag c)<|eY H72 (fun k73 H74=>Z 17 c (bb k73)<|Z 18 c (bb k73)<|Z 19 c (bb k73)<|Z 20 c (bb k73)<|Z 21 c (bb k73)<|Z 22 c (bb k73)<|Z 23 c (bb k73)<|Z 24 c (bb k73)<|Z 25 c (bb k73)<|Z 26 c (bD _)<|Z 27 c (bD _)<|Z 28 c (bD _)<|Z 29 c (bD _)<|Z 30 c (bD _)<|Z 31 c (bD _)<|Z 32 c (bD _)<|Z 33 c (bD _)<|Z 34 c (bD _)<|Z 35 c (bD _)<|Z 36 c (bD _)<|Z 37 c (bD _)<|Z 38 c (bD _)<|Z 39 c (bD _)<|Z 40 c (bD _)<|Z 41 c (bD _)<|Z 42 c (bb k73)<|U 43 c (aI c k73 c)<|aO (by kernel_rfl)<|fG c c<|M<|O c<|ah<|D ⟨false,c,H74⟩) fun k73 H74=>I 17 c (Y k73) (ve<|ag c)<|I 18 c (Y k73) (ve<|ag c)<|I 19 c (Y k73) (ve<|bh fu (aK c<|aX e66) c h67)<|I 20 c (Y k73) (ve<|ae fT c)<|I 22 c (Y k73) (ve<|ae fT c)<|I 23 c (Y k73) (cx (k:=0) aS c c c)<|eu (i:=21) (fun _ _ _ _ hh=>hh) H74 c (by kernel_rfl) c c c (Y k73) aS c (fun _=>c) c fun x128 H75=>I 24 c (Y k73) (ve<|bH c c)<|I 25 c (Y k73) (ve<|ag c)<|eY H75 (fun k76 H77=>I 26 c (Y k76) (ve<|ag c)<|I 27 c (Y k76) (ve<|ag c)<|I 28 c (Y k76) (ve<|bh fu (aK c<|aX e66) c h67)<|I 29 c (Y k76) (ve<|ae dM c)<|eu (i:=30) (fun _ _ _ _ hh=>hh) H77 c (by kernel_rfl) c c c (Y k76) aS c (fun _=>c) c fun x137 H78=>I 31 c (Y k76) (ve<|bH c c)<|I 32 c (Y k76) (ve<|ag c)<|eY H78 (fun k79 H80=>Z 33 c (bb k79)<|Z 34 c (bb k79)<|Z 35 c (bb k79)<|Z 36 c (bb k79)<|Z 37 c (bb k79)<|Z 38 c (bb k79)<|Z 39 c (bb k79)<|Z 40 c (bb k79)<|I 41 c (Y k76) (ve<|aI c k79 c)<|I 42 c (Y k73) (ve<|aI c k76 c)<|U 43 c (ao c k73 c)<|aO (by kernel_rfl)<|fG c c<|M<|O c<|ah<|D ⟨false,c,H80⟩) fun k79 H80=>I 33 c (Y k79) (ve<|ag c)<|I 34 c (Y k79) (ve<|ag c)<|I 35 c (Y k79) (ve<|bh fu (aK c<|aX e66) c h67)<|I 36 c (Y k79) (ve<|ae dM c)<|I 38 c (Y k79) (ve<|ae gu c)<|I 39 c (Y k79) (cx (k:=0) aS c c c)<|eu (i:=37) (fun _ _ _ _ hh=>hh) H80 c (by kernel_rfl) c c c (Y k79) aS c (fun _=>c) c fun x144 H81=>I 40 c (Y k79) (ve<|ij c c)<|I 41 c (Y k76) (ve<|ao c k79 c)<|I 42 c (Y k73) (ve<|aI c k76 c)<|U 43 c (ao c k73 c)<|aO (by kernel_rfl)<|av c H81 (fun k82 H83=>M<|O c<|ah<|D ⟨false,c,H83⟩) fun k82 H83=>an<|ap<|J c<|p (bn c c)<|O c<|cM (IntKind.i64.wrap (s61 + 1)) H83 (.cons c<|.cons c<|.cons c<|.cons c<|.cons c<|.nil _)<|.cons_cons _<|.cons_cons _ .slnil) fun k76 H77=>Z 26 c (aJ k76)<|Z 27 c (aJ k76)<|Z 28 c (aJ k76)<|Z 29 c (aJ k76)<|Z 30 c (aJ k76)<|Z 31 c (aJ k76)<|Z 32 c (aJ k76)<|Z 33 c (bD _)<|Z 34 c (bD _)<|Z 35 c (bD _)<|Z 36 c (bD _)<|Z 37 c (bD _)<|Z 38 c (bD _)<|Z 39 c (bD _)<|Z 40 c (bD _)<|Z 41 c (aJ k76)<|I 42 c (Y k73) (ve<|ao c k76 c)<|U 43 c (ao c k73 c)<|aO (by kernel_rfl)<|rW c c<|an<|ap<|J c<|p (bn c c)<|O c<|cM (IntKind.i64.wrap (s61 + 1)) H77 (.cons c<|.cons c<|.cons c<|.cons c<|.cons c<|.nil _)<|.cons_cons _<|.cons_cons _ .slnil) fun k70 H71=>Z 7 c (aJ k70)<|Z 8 c (aJ k70)<|Z 9 c (aJ k70)<|Z 10 c (aJ k70)<|Z 11 c (aJ k70)<|Z 12 c (aJ k70)<|Z 13 c (aJ k70)<|Z 14 c (aJ k70)<|U 15 c (ao c k70 c)<|U 16 c (ag c)<|I 17 c c (ve<|ag c)<|I 18 c c (ve<|ag c)<|I 19 c c (ve<|bh fu (aK c<|aX e66) c h67)<|I 20 c c (ve<|ae fT c)<|I 22 c c (ve<|ae fT c)<|I 23 c c (cx (k:=0) aS c c c)<|eu (i:=21) (fun _ _ _ _ hh=>hh) H71 c (by kernel_rfl) c c c c aS c (fun _=>c) c fun x128 H84=>I 24 c c (ve<|bH c c)<|I 25 c c (ve<|ag c)<|eY H84 (fun k85 H86=>I 26 c (Y k85) (ve<|ag c)<|I 27 c (Y k85) (ve<|ag c)<|I 28 c (Y k85) (ve<|bh fu (aK c<|aX e66) c h67)<|I 29 c (Y k85) (ve<|ae dM c)<|eu (i:=30) (fun _ _ _ _ hh=>hh) H86 c (by kernel_rfl) c c c (Y k85) aS c (fun _=>c) c fun x137 H87=>I 31 c (Y k85) (ve<|bH c c)<|I 32 c (Y k85) (ve<|ag c)<|eY H87 (fun k88 H89=>Z 33 c (bb k88)<|Z 34 c (bb k88)<|Z 35 c (bb k88)<|Z 36 c (bb k88)<|Z 37 c (bb k88)<|Z 38 c (bb k88)<|Z 39 c (bb k88)<|Z 40 c (bb k88)<|I 41 c (Y k85) (ve<|aI c k88 c)<|I 42 c c (ve<|aI c k85 c)<|U 43 c (ao c c c)<|aO (by kernel_rfl)<|fG c c<|M<|O c<|ah<|D ⟨false,c,H89⟩) fun k88 H89=>I 33 c (Y k88) (ve<|ag c)<|I 34 c (Y k88) (ve<|ag c)<|I 35 c (Y k88) (ve<|bh fu (aK c<|aX e66) c h67)<|I 36 c (Y k88) (ve<|ae dM c)<|I 38 c (Y k88) (ve<|ae gu c)<|I 39 c (Y k88) (cx (k:=0) aS c c c)<|eu (i:=37) (fun _ _ _ _ hh=>hh) H89 c (by kernel_rfl) c c c (Y k88) aS c (fun _=>c) c fun x144 H90=>I 40 c (Y k88) (ve<|ij c c)<|I 41 c (Y k85) (ve<|ao c k88 c)<|I 42 c c (ve<|aI c k85 c)<|U 43 c (ao c c c)<|aO (by kernel_rfl)<|av c H90 (fun k91 H92=>M<|O c<|ah<|D ⟨false,c,H92⟩) fun k91 H92=>an<|ap<|J c<|p (bn c c)<|O c<|cM (IntKind.i64.wrap (s61 + 1)) H92 (.cons c<|.cons c<|.cons c<|.cons c<|.cons c<|.nil _)<|.cons_cons _<|.cons_cons _ .slnil) fun k85 H86=>Z 26 c (aJ k85)<|Z 27 c (aJ k85)<|Z 28 c (aJ k85)<|Z 29 c (aJ k85)<|Z 30 c (aJ k85)<|Z 31 c (aJ k85)<|Z 32 c (aJ k85)<|Z 33 c (bD _)<|Z 34 c (bD _)<|Z 35 c (bD _)<|Z 36 c (bD _)<|Z 37 c (bD _)<|Z 38 c (bD _)<|Z 39 c (bD _)<|Z 40 c (bD _)<|Z 41 c (aJ k85)<|I 42 c c (ve<|ao c k85 c)<|U 43 c (ao c c c)<|aO (by kernel_rfl)<|rW c c<|an<|ap<|J c<|p (bn c c)<|O c<|cM (IntKind.i64.wrap (s61 + 1)) H86 (.cons c<|.cons c<|.cons c<|.cons c<|.cons c<|.nil _)<|.cons_cons _<|.cons_cons _ .slnil) fun k64 H65=>bj<|ap<|J c<|p (bn c c)<|O c<|cM (IntKind.i64.wrap (s1 + 1)) H65 (.cons c<|.cons c<|.cons c<|.nil _)<|.cons _<|.cons_cons _ .slnil) fun k20 H21=>Z 31 c (aJ k20)<|Z 32 c (aJ k20)<|Z 33 c (aJ k20)<|Z 34 c (aJ k20)<|Z 35 c (aJ k20)<|Z 36 c (aJ k20)<|Z 37 c (aJ k20)<|Z 38 c (aJ k20)<|Z 39 c (aJ k20)<|I 40 c (Y k18) (ve<|ao c k20 c)<|U 41 c (ao c k18 c)<|aO (by kernel_rfl)<|rW c c<|an<|ak<|M<|p (ae dM c)<|bf (ba (k:=0) aS c c c) c<|p (cq c c)<|J c<|V c c (aG _) (fun g93=>wv<|ae db c)<|V c c (aG _) (fun g94=>cv<|ba (k:=0) aS (az c g94) c c)<|V c c (aG _) (fun g95=>wv<|cq (az c g95) c)<|p (cZ c c)<|J c<|V c c (aG _) (fun g96=>wv<|ae dM c)<|V c c (aG _) (fun g97=>cv<|ba (k:=0) aS (az c g97) c c)<|V c c (aG _) (fun g98=>wv<|kP (az c g98) c)<|V c c (aG _) (fun g99=>wv<|ag<|az c g99)<|V c c (dO _ _) (fun g100=>wv<|ae db c)<|V c c (dO _ _) (fun g101=>cv<|ba (k:=0) aS (az c g101) c c)<|V c c (dO _ _) (fun g102=>wv<|bH (az c g102) c)<|V c c (aG _) (fun g103=>wv<|bO (az c g103)<|aK c<|nP g103)<|p (cZ c c)<|J c<|V c c (aG _) (fun g104=>wv<|ae db c)<|V c c (aG _) (fun g105=>cv<|ba (k:=0) aS (az c g105) c c)<|V c c (aG _) (fun g106=>wv<|kP (az c g106) c)<|V c c (aG _) (fun g107=>wv<|ag<|az c g107)<|V c c (dO _ _) (fun g108=>wv<|ae db c)<|V c c (dO _ _) (fun g109=>cv<|ba (k:=0) aS (az c g109) c c)<|V c c (dO _ _) (fun g110=>wv<|ae gu c)<|V c c (dO _ _) (fun g111=>cv<|ba (k:=0) aS (az c g111) c c)<|V c c (dO _ _) (fun g112=>wv<|cq (az c g112)<|az c g112)<|V c c (aG _) (fun g113=>wv<|bO (az c g113)<|aK c<|nP g113)<|p (cZ c c)<|J c<|V c c (aG _) (fun g114=>wv<|ae dM c)<|V c c (aG _) (fun g115=>cv<|ba (k:=0) aS (az c g115) c c)<|V c c (aG _) (fun g116=>wv<|kP (az c g116) c)<|V c c (aG _) (fun g117=>wv<|ag<|az c g117)<|V c c (dO _ _) (fun g118=>wv<|ae db c)<|V c c (dO _ _) (fun g119=>cv<|ba (k:=0) aS (az c g119) c c)<|V c c (dO _ _) (fun g120=>wv<|ae dM c)<|V c c (dO _ _) (fun g121=>cv<|ba (k:=0) aS (az c g121) c c)<|V c c (dO _ _) (fun g122=>wv<|kP (az c g122)<|az c g122)<|V c c (aG _) (fun g123=>wv<|bO (az c g123)<|aK c<|nP g123)<|p (cZ c c)<|ad<|av c H21 (fun k124 H125=>M<|O c<|ah<|D ⟨false,c,H125⟩) fun k124 H125=>an<|M<|O c<|ax<|bG (step:=jL a0 K Rec2 s1 x17) (fun s126=>[(0,(sv a0)),(3,(.pointer (some ⟨b3,0,none⟩))),(5,(.int .i64 s1)),(6,(.pointer (some ⟨b6,0,none⟩))),(7,(.int .i64 s126))]) (fun s126=>[bx b6 56 (aB.C x17),bx b3 25 (au.C a1)]) H125 (.cons c<|.cons c<|.cons c<|.cons c<|.cons c<|.nil _) (.cons_cons _<|.cons_cons _ .slnil) fun Rec127 s126 _ H128=>ak<|M<|J c<|J c<|p (cq c c)<|ad<|av c H128 (fun k129 H130=>an<|ak<|ax<|ak<|bm (n:=44) [bx b6 56 (aB.C x17)] cn c (.cons_cons _<|.cons _ .slnil)<|U 0 c (ag c)<|U 1 c (ag c)<|fF H130 fun q109 e131 h132 H133=>U 2 c (bh fu (aK c<|aX e131) c h132)<|U 3 c (ae db c)<|bJ (i:=4) (fun _ _ _ _ hh=>hh) H133 c (by kernel_rfl) aS c (fun _=>c) c fun x111 H134=>U 5 c (kP c c)<|U 6 c (ag c)<|eY H134 (fun k135 H136=>I 7 c (Y k135) (ve<|ag c)<|I 8 c (Y k135) (ve<|ag c)<|I 9 c (Y k135) (ve<|bh fu (aK c<|aX e131) c h132)<|I 10 c (Y k135) (ve<|ae db c)<|I 12 c (Y k135) (ve<|ae db c)<|I 13 c (Y k135) (cx (k:=0) aS c c c)<|eu (i:=11) (fun _ _ _ _ hh=>hh) H136 c (by kernel_rfl) c c c (Y k135) aS c (fun _=>c) c fun x118 H137=>I 14 c (Y k135) (ve<|bH c c)<|U 15 c (aI c k135 c)<|U 16 c (ag c)<|eY H137 (fun k138 H139=>Z 17 c (bb k138)<|Z 18 c (bb k138)<|Z 19 c (bb k138)<|Z 20 c (bb k138)<|Z 21 c (bb k138)<|Z 22 c (bb k138)<|Z 23 c (bb k138)<|Z 24 c (bb k138)<|Z 25 c (bb k138)<|Z 26 c (bD _)<|Z 27 c (bD _)<|Z 28 c (bD _)<|Z 29 c (bD _)<|Z 30 c (bD _)<|Z 31 c (bD _)<|Z 32 c (bD _)<|Z 33 c (bD _)<|Z 34 c (bD _)<|Z 35 c (bD _)<|Z 36 c (bD _)<|Z 37 c (bD _)<|Z 38 c (bD _)<|Z 39 c (bD _)<|Z 40 c (bD _)<|Z 41 c (bD _)<|Z 42 c (bb k138)<|U 43 c (aI c k138 c)<|aO (by kernel_rfl)<|fG c c<|M<|O c<|ah<|D ⟨false,c,H139⟩) fun k138 H139=>I 17 c (Y k138) (ve<|ag c)<|I 18 c (Y k138) (ve<|ag c)<|I 19 c (Y k138) (ve<|bh fu (aK c<|aX e131) c h132)<|I 20 c (Y k138) (ve<|ae fT c)<|I 22 c (Y k138) (ve<|ae fT c)<|I 23 c (Y k138) (cx (k:=0) aS c c c)<|eu (i:=21) (fun _ _ _ _ hh=>hh) H139 c (by kernel_rfl) c c c (Y k138) aS c (fun _=>c) c fun x128 H140=>I 24 c (Y k138) (ve<|bH c c)<|I 25 c (Y k138) (ve<|ag c)<|eY H140 (fun k141 H142=>I 26 c (Y k141) (ve<|ag c)<|I 27 c (Y k141) (ve<|ag c)<|I 28 c (Y k141) (ve<|bh fu (aK c<|aX e131) c h132)<|I 29 c (Y k141) (ve<|ae dM c)<|eu (i:=30) (fun _ _ _ _ hh=>hh) H142 c (by kernel_rfl) c c c (Y k141) aS c (fun _=>c) c fun x137 H143=>I 31 c (Y k141) (ve<|bH c c)<|I 32 c (Y k141) (ve<|ag c)<|eY H143 (fun k144 H145=>Z 33 c (bb k144)<|Z 34 c (bb k144)<|Z 35 c (bb k144)<|Z 36 c (bb k144)<|Z 37 c (bb k144)<|Z 38 c (bb k144)<|Z 39 c (bb k144)<|Z 40 c (bb k144)<|I 41 c (Y k141) (ve<|aI c k144 c)<|I 42 c (Y k138) (ve<|aI c k141 c)<|U 43 c (ao c k138 c)<|aO (by kernel_rfl)<|fG c c<|M<|O c<|ah<|D ⟨false,c,H145⟩) fun k144 H145=>I 33 c (Y k144) (ve<|ag c)<|I 34 c (Y k144) (ve<|ag c)<|I 35 c (Y k144) (ve<|bh fu (aK c<|aX e131) c h132)<|I 36 c (Y k144) (ve<|ae dM c)<|I 38 c (Y k144) (ve<|ae gu c)<|I 39 c (Y k144) (cx (k:=0) aS c c c)<|eu (i:=37) (fun _ _ _ _ hh=>hh) H145 c (by kernel_rfl) c c c (Y k144) aS c (fun _=>c) c fun x144 H146=>I 40 c (Y k144) (ve<|ij c c)<|I 41 c (Y k141) (ve<|ao c k144 c)<|I 42 c (Y k138) (ve<|aI c k141 c)<|U 43 c (ao c k138 c)<|aO (by kernel_rfl)<|av c H146 (fun k147 H148=>M<|O c<|ah<|D ⟨false,c,H148⟩) fun k147 H148=>an<|ap<|J c<|p (bn c c)<|O c<|cM (IntKind.i64.wrap (s126 + 1)) H148 (.cons c<|.cons c<|.cons c<|.cons c<|.cons c<|.nil _)<|.cons_cons _<|.cons_cons _ .slnil) fun k141 H142=>Z 26 c (aJ k141)<|Z 27 c (aJ k141)<|Z 28 c (aJ k141)<|Z 29 c (aJ k141)<|Z 30 c (aJ k141)<|Z 31 c (aJ k141)<|Z 32 c (aJ k141)<|Z 33 c (bD _)<|Z 34 c (bD _)<|Z 35 c (bD _)<|Z 36 c (bD _)<|Z 37 c (bD _)<|Z 38 c (bD _)<|Z 39 c (bD _)<|Z 40 c (bD _)<|Z 41 c (aJ k141)<|I 42 c (Y k138) (ve<|ao c k141 c)<|U 43 c (ao c k138 c)<|aO (by kernel_rfl)<|rW c c<|an<|ap<|J c<|p (bn c c)<|O c<|cM (IntKind.i64.wrap (s126 + 1)) H142 (.cons c<|.cons c<|.cons c<|.cons c<|.cons c<|.nil _)<|.cons_cons _<|.cons_cons _ .slnil) fun k135 H136=>Z 7 c (aJ k135)<|Z 8 c (aJ k135)<|Z 9 c (aJ k135)<|Z 10 c (aJ k135)<|Z 11 c (aJ k135)<|Z 12 c (aJ k135)<|Z 13 c (aJ k135)<|Z 14 c (aJ k135)<|U 15 c (ao c k135 c)<|U 16 c (ag c)<|I 17 c c (ve<|ag c)<|I 18 c c (ve<|ag c)<|I 19 c c (ve<|bh fu (aK c<|aX e131) c h132)<|I 20 c c (ve<|ae fT c)<|I 22 c c (ve<|ae fT c)<|I 23 c c (cx (k:=0) aS c c c)<|eu (i:=21) (fun _ _ _ _ hh=>hh) H136 c (by kernel_rfl) c c c c aS c (fun _=>c) c fun x128 H149=>I 24 c c (ve<|bH c c)<|I 25 c c (ve<|ag c)<|eY H149 (fun k150 H151=>I 26 c (Y k150) (ve<|ag c)<|I 27 c (Y k150) (ve<|ag c)<|I 28 c (Y k150) (ve<|bh fu (aK c<|aX e131) c h132)<|I 29 c (Y k150) (ve<|ae dM c)<|eu (i:=30) (fun _ _ _ _ hh=>hh) H151 c (by kernel_rfl) c c c (Y k150) aS c (fun _=>c) c fun x137 H152=>I 31 c (Y k150) (ve<|bH c c)<|I 32 c (Y k150) (ve<|ag c)<|eY H152 (fun k153 H154=>Z 33 c (bb k153)<|Z 34 c (bb k153)<|Z 35 c (bb k153)<|Z 36 c (bb k153)<|Z 37 c (bb k153)<|Z 38 c (bb k153)<|Z 39 c (bb k153)<|Z 40 c (bb k153)<|I 41 c (Y k150) (ve<|aI c k153 c)<|I 42 c c (ve<|aI c k150 c)<|U 43 c (ao c c c)<|aO (by kernel_rfl)<|fG c c<|M<|O c<|ah<|D ⟨false,c,H154⟩) fun k153 H154=>I 33 c (Y k153) (ve<|ag c)<|I 34 c (Y k153) (ve<|ag c)<|I 35 c (Y k153) (ve<|bh fu (aK c<|aX e131) c h132)<|I 36 c (Y k153) (ve<|ae dM c)<|I 38 c (Y k153) (ve<|ae gu c)<|I 39 c (Y k153) (cx (k:=0) aS c c c)<|eu (i:=37) (fun _ _ _ _ hh=>hh) H154 c (by kernel_rfl) c c c (Y k153) aS c (fun _=>c) c fun x144 H155=>I 40 c (Y k153) (ve<|ij c c)<|I 41 c (Y k150) (ve<|ao c k153 c)<|I 42 c c (ve<|aI c k150 c)<|U 43 c (ao c c c)<|aO (by kernel_rfl)<|av c H155 (fun k156 H157=>M<|O c<|ah<|D ⟨false,c,H157⟩) fun k156 H157=>an<|ap<|J c<|p (bn c c)<|O c<|cM (IntKind.i64.wrap (s126 + 1)) H157 (.cons c<|.cons c<|.cons c<|.cons c<|.cons c<|.nil _)<|.cons_cons _<|.cons_cons _ .slnil) fun k150 H151=>Z 26 c (aJ k150)<|Z 27 c (aJ k150)<|Z 28 c (aJ k150)<|Z 29 c (aJ k150)<|Z 30 c (aJ k150)<|Z 31 c (aJ k150)<|Z 32 c (aJ k150)<|Z 33 c (bD _)<|Z 34 c (bD _)<|Z 35 c (bD _)<|Z 36 c (bD _)<|Z 37 c (bD _)<|Z 38 c (bD _)<|Z 39 c (bD _)<|Z 40 c (bD _)<|Z 41 c (aJ k150)<|I 42 c c (ve<|ao c k150 c)<|U 43 c (ao c c c)<|aO (by kernel_rfl)<|rW c c<|an<|ap<|J c<|p (bn c c)<|O c<|cM (IntKind.i64.wrap (s126 + 1)) H151 (.cons c<|.cons c<|.cons c<|.cons c<|.cons c<|.nil _)<|.cons_cons _<|.cons_cons _ .slnil) fun k129 H130=>bj<|ap<|J c<|p (bn c c)<|O c<|cM (IntKind.i64.wrap (s1 + 1)) H130 (.cons c<|.cons c<|.cons c<|.nil _)<|.cons _<|.cons_cons _ .slnil) fun k4 H5=>bj<|M<|O c<|ah<|D ⟨true,c,H5⟩
end Go.Proofs.YtemoifebbhoinaaGreatDoor
namespace Go.Proofs.YtemoifebbhoinaaGreatDoor
open Go Mb
namespace Hist
structure Ok1 (es:List bq) (s:eH) (i:Nat) (e:bq):Prop where
  c0:0 ≤ e.fCore
  c1:e.fCore < s.fCores
  v0:0 ≤ e.fEnv
  v1:e.fEnv < s.fEnvs
  b:1 ≤ e.fBegin
  prev:∀ d,i ≠ 0→es[i - 1]? = some d→d.fBegin < e.fBegin
  nums:¬ ((((e.fEnd < 0∨e.fEffect < 0)∨(e.fEnd > 0∧e.fEffect = 0))∨(e.fEffect > 0∧e.fEffect < e.fBegin))∨(e.fEnd > 0∧e.fEffect > e.fEnd))
def Ok2 (d e:bq):Prop:=¬ (d.fEffect > 0∧d.fEffect = e.fEffect)∧¬ (d.fCore = e.fCore∧(d.fEnd = 0∨d.fEnd ≥ e.fBegin))
def Val (es:List bq) (s:eH) (n:Nat):Prop:=∀ (i:Nat) e,i < n→es[i]? = some e→Ok1 es s i e∧∀ (k:Nat) d,k < i→es[k]? = some d→Ok2 d e
theorem Val.step {es:List bq} {s:eH} {n:Nat} {e:bq} (V:Val es s n) (he:es[n]? = some e) (h1:Ok1 es s n e) (h2:∀ (k:Nat) d,k < n→es[k]? = some d→Ok2 d e):Val es s (n + 1):=by
  intro i e' hi he'
  by_cases h:i = n
  · subst h; rw [he] at he'; cases he'; exact ⟨h1,h2⟩
  · exact V i e' (by omega) he'
end Hist
open Hist
theorem may_inner {s:Sl} {es:List bq} {K:Bool→Hp→Prop} {Rec2:Int→Hp→Prop} {n:Nat} {e:bq} (hlt:n < es.length) (hb:es.length < 2 ^ 38) {h:Hp} (st:aF [vE s es] h)
    (bad:∀ (k:Nat) d h',k < n→es[k]? = some d→¬ Ok2 d e→aF [vE s es] h'→K false h') (good:∀ h',(∀ (k:Nat) d,k < n→es[k]? = some d→Ok2 d e)→aF [vE s es] h'→Rec2 (IntKind.i64.wrap ((n:Int) + 1)) h') :
    Lp (eo s K Rec2 n e) 0 h:=by
  have hl:=(ce (j:=0) st rfl).1
  refine Lp.intro (fun (i:Int) h=>∃ m:Nat,i = m∧m ≤ n∧(∀ (k:Nat) d,k < m→es[k]? = some d→Ok2 d e)∧aF [vE s es] h) (fun (i:Int) _=>n - i.toNat) ⟨0,rfl,Nat.zero_le _,fun k d hk=>by omega,st⟩ ?_
  rintro i h1 ⟨m,rfl,hm,hok,s1⟩
  unfold eo
  refine aY (fun c=>?_) (fun c=>?_)
  · have hmn:m < n:=by simpa using c
    have hme:m < es.length:=by omega
    have hw:IntKind.i64.wrap ((m:Int) + 1) = ((m + 1:Nat):Int):=by rw [bP (by omega) (by omega)]; rfl
    have next:Ok2 es[m] e→(fun (s':Int) h'=>(∃ m:Nat,s' = m∧m ≤ n∧(∀ (k:Nat) d,k < m→es[k]? = some d→Ok2 d e)∧aF [vE s es] h')∧n - s'.toNat < n - (m:Int).toNat) (IntKind.i64.wrap ((m:Int) + 1)) h1:=by
      intro ho
      rw [hw]
      refine ⟨⟨m + 1,rfl,hmn,fun k d hk hd=>?_,s1⟩,by simp; omega⟩
      by_cases h:k = m
      · subst h; rw [aD hme] at hd; cases hd; exact ho
      · exact hok k d (by omega) hd
    have fail:¬ Ok2 es[m] e→K false h1:=fun ho=>bad m es[m] h1 hmn (aD hme) ho s1
    refine du s1 (j:=0) rfl (by omega) (by omega) fun q hq=>?_
    refine dU (j:=0) (i:=m) (k:=8) es[m].fEffect iF s1 rfl hq rfl (aD hme) (c1 rfl rfl) ?_
    have tail:¬ (es[m].fEffect > 0∧es[m].fEffect = e.fEffect) →
        ld (q.1,q.2 + Int.toNat (m:Int) * 16 + 0) (cI .i64) (fun x128=>br (x128 == e.fCore) (ld (q.1,q.2 + Int.toNat (m:Int) * 16 + 9) (cI .i64) fun x137=>br (x137 == 0) (K false) (ld (q.1,q.2 + Int.toNat (m:Int) * 16 + 9) (cI .i64) fun x144=>br (decide (x144 ≥ e.fBegin)) (K false)
          ((fun (s':Int) h'=>(∃ m:Nat,s' = m∧m ≤ n∧(∀ (k:Nat) d,k < m→es[k]? = some d→Ok2 d e)∧aF [vE s es] h')∧n - s'.toNat < n - (m:Int).toNat) (IntKind.i64.wrap ((m:Int) + 1)))))
          ((fun (s':Int) h'=>(∃ m:Nat,s' = m∧m ≤ n∧(∀ (k:Nat) d,k < m→es[k]? = some d→Ok2 d e)∧aF [vE s es] h')∧n - s'.toNat < n - (m:Int).toNat) (IntKind.i64.wrap ((m:Int) + 1)))) h1:=by
      intro h0
      refine dU (j:=0) (i:=m) (k:=0) es[m].fCore iF s1 rfl hq rfl (aD hme) (c1 rfl rfl) ?_
      refine aY (fun d=>?_) (fun d=>?_)
      · have hc:es[m].fCore = e.fCore:=by simpa using d
        refine dU (j:=0) (i:=m) (k:=9) es[m].fEnd iF s1 rfl hq rfl (aD hme) (c1 rfl rfl) ?_
        refine aY (fun d=>?_) (fun d=>?_)
        · exact fail fun o=>o.2 ⟨hc,.inl (by simpa using d)⟩
        · refine dU (j:=0) (i:=m) (k:=9) es[m].fEnd iF s1 rfl hq rfl (aD hme) (c1 rfl rfl) ?_
          refine aY (fun d2=>?_) (fun d2=>?_)
          · exact fail fun o=>o.2 ⟨hc,.inr (of_decide_eq_true d2)⟩
          · refine next ⟨h0,fun o=>?_⟩
            rcases o.2 with o | o
            · simp at d; exact d o
            · exact absurd o (of_decide_eq_false d2)
      · exact next ⟨h0,fun o=>by simp at d; exact d o.1⟩
    refine aY (fun d=>?_) (fun d=>?_)
    · refine dU (j:=0) (i:=m) (k:=8) es[m].fEffect iF s1 rfl hq rfl (aD hme) (c1 rfl rfl) ?_
      refine aY (fun d2=>?_) (fun d2=>?_)
      · exact fail fun o=>o.1 ⟨of_decide_eq_true d,by simpa using d2⟩
      · exact tail fun o=>by simp at d2; exact d2 o.2
    · exact tail fun o=>absurd o.1 (of_decide_eq_false d)
  · have hmn:m = n:=by simp at c; omega
    subst hmn
    exact good h1 hok s1
theorem sp_ref2_MayHist (s:Sl) (es:List bq) (z:eH) (hb:es.length < 2 ^ 38):Sp Tryz.prog gZ [sv s,.agg z.C.toArray] aA [vE s es] (fun r=>pa_ (r = true↔Val es z es.length) [vE s es]):=by
  intro h st
  refine uT _ _ ?_
  unfold nZ
  have hl:=(ce (j:=0) st rfl).1
  refine Lp.intro (fun (i:Int) h=>∃ n:Nat,i = n∧n ≤ es.length∧Val es z n∧aF [vE s es] h) (fun (i:Int) _=>es.length - i.toNat) ⟨0,rfl,Nat.zero_le _,fun i e hi=>by omega,st⟩ ?_
  rintro i h1 ⟨n,rfl,hn,V,s1⟩
  unfold jM
  refine aY (fun c=>?_) (fun c=>?_)
  · have hlt:n < es.length:=by rw [hl] at c; simpa using c
    have hw:IntKind.i64.wrap ((n:Int) + 1) = ((n + 1:Nat):Int):=by rw [bP (by omega) (by omega)]; rfl
    have he:=aD hlt
    refine du s1 (j:=0) rfl (by omega) (by omega) fun q hq=>?_
    refine dU (j:=0) (i:=n) (k:=0) es[n] iF s1 rfl hq rfl he (by simp) ?_
    generalize es[n] = e at he
    have fail:¬ Ok1 es z n e→pa_ (false = true↔Val es z es.length) [vE s es] h1:=fun ho=>aZ ⟨fun h=>(by cases h),fun V=>absurd (V n e hlt he).1 ho⟩ s1
    refine aY (fun d=>fail fun o=>absurd (of_decide_eq_true d) (by have:=o.c0; omega)) (fun d1=>?_)
    refine aY (fun d=>fail fun o=>absurd (of_decide_eq_true d) (by have:=o.c1; omega)) (fun d2=>?_)
    refine aY (fun d=>fail fun o=>absurd (of_decide_eq_true d) (by have:=o.v0; omega)) (fun d3=>?_)
    refine aY (fun d=>fail fun o=>absurd (of_decide_eq_true d) (by have:=o.v1; omega)) (fun d4=>?_)
    refine aY (fun d=>fail fun o=>absurd (of_decide_eq_true d) (by have:=o.b; omega)) (fun d5=>?_)
    have d1:=of_decide_eq_false d1
    have d2:=of_decide_eq_false d2
    have d3:=of_decide_eq_false d3
    have d4:=of_decide_eq_false d4
    have d5:=of_decide_eq_false d5
    have inner:Ok1 es z n e→Lp (eo s (fun r=>pa_ (r = true↔Val es z es.length) [vE s es]) (fun (s':Int) h'=>(∃ n:Nat,s' = n∧n ≤ es.length∧Val es z n∧aF [vE s es] h')∧es.length - s'.toNat < es.length - (n:Int).toNat) n e) 0 h1:=by
      intro ho
      refine may_inner hlt hb s1 (fun k d h' hk hd hno s'=>aZ ⟨fun h=>(by cases h),fun V=>absurd ((V n e hlt he).2 k d hk hd) hno⟩ s') (fun h' hall s'=>?_)
      rw [hw]
      exact ⟨⟨n + 1,rfl,hlt,V.step he ho hall,s'⟩,by simp; omega⟩
    have nums:(((((decide (e.fEnd < 0)) || (decide (e.fEffect < 0))) || ((decide (e.fEnd > 0)) && (e.fEffect == 0))) || ((decide (e.fEffect > 0)) && (decide (e.fEffect < e.fBegin)))) || ((decide (e.fEnd > 0)) && (decide (e.fEffect > e.fEnd)))) = decide ((((e.fEnd < 0∨e.fEffect < 0)∨(e.fEnd > 0∧e.fEffect = 0))∨(e.fEffect > 0∧e.fEffect < e.fBegin))∨(e.fEnd > 0∧e.fEffect > e.fEnd)):=by
      simp only [Bool.decide_or,Bool.decide_and]
      rfl
    rw [nums]
    refine aY (fun d=>?_) (fun d=>?_)
    · have hn0:0 < n:=by have:=of_decide_eq_true d; omega
      have hw2:IntKind.i64.wrap ((n:Int) - 1) = ((n - 1:Nat):Int):=by rw [bP (by omega) (by omega)]; omega
      rw [hw2]
      have hp:n - 1 < es.length:=by omega
      refine du s1 (j:=0) rfl (by omega) (by omega) fun q2 hq2=>?_
      refine dU (j:=0) (i:=n - 1) (k:=7) es[n - 1].fBegin iF s1 rfl hq2 rfl (aD hp) (c1 rfl rfl) ?_
      refine aY (fun d6=>fail fun o=>?_) (fun d6=>?_)
      · have:=o.prev _ (by omega) (aD hp)
        have:=of_decide_eq_true d6
        omega
      · refine aY (fun d7=>fail fun o=>o.nums (of_decide_eq_true d7)) (fun d7=>?_)
        exact inner ⟨by omega,by omega,by omega,by omega,by omega,fun x _ hx=>by rw [aD hp] at hx; cases hx; have:=of_decide_eq_false d6; omega,of_decide_eq_false d7⟩
    · have hn0:n = 0:=by have:=of_decide_eq_false d; omega
      refine aY (fun d7=>fail fun o=>o.nums (of_decide_eq_true d7)) (fun d7=>?_)
      have e3:@jL = @eo:=rfl
      rw [e3]
      exact inner ⟨by omega,by omega,by omega,by omega,by omega,fun x hx _=>absurd hn0 hx,of_decide_eq_false d7⟩
  · have:n = es.length:=by rw [hl] at c; simp at c; omega
    subst this
    exact aZ ⟨fun _=>V,fun _=>rfl⟩ s1
end Go.Proofs.YtemoifebbhoinaaGreatDoor
namespace Go.Proofs.YtemoifebbhoinaaGreatDoor
open Go Mb
namespace Hist
def Nums (e:bq):Prop:=¬ ((((e.fEnd < 0∨e.fEffect < 0)∨(e.fEnd > 0∧e.fEffect = 0))∨(e.fEffect > 0∧e.fEffect < e.fBegin))∨(e.fEnd > 0∧e.fEffect > e.fEnd))
def lastB:List bq→Int
  | []=>0
  | d::_=>d.fBegin
structure OkL (s:eH) (L:List bq) (e:bq):Prop where
  c0:0 ≤ e.fCore
  c1:e.fCore < s.fCores
  v0:0 ≤ e.fEnv
  v1:e.fEnv < s.fEnvs
  b:1 ≤ e.fBegin
  prev:lastB L < e.fBegin
  nums:Nums e
  two:∀ x ∈ L,Ok2 x e
def VL (s:eH):List bq→Prop
  | []=>True
  | e::L=>VL s L∧OkL s L e
theorem VL.tail {s:eH}:∀ {A L:List bq},VL s (A++L)→VL s L
  | [],_,h=>h
  | _::_,_,h=>VL.tail h.1
theorem VL.up {s:eH}:∀ {L:List bq},VL s L→∀ x ∈ L,x.fBegin ≤ lastB L∧0 ≤ x.fEnd
  | [],_,x,hx=>by cases hx
  | e::L,h,x,hx=>by
    have he:0 ≤ e.fEnd:=by have:=h.2.nums; unfold Nums at this; omega
    rcases List.mem_cons.1 hx with rfl | hx
    · exact ⟨Int.le_refl _,he⟩
    · have:=VL.up h.1 x hx
      have h2:=h.2.prev
      exact ⟨by show x.fBegin ≤ e.fBegin; omega,this.2⟩
theorem one_iff {s:eH} {L:List bq} (V:VL s L) (e:bq):dC e s (lastB L) = true↔(0 ≤ e.fCore∧e.fCore < s.fCores∧0 ≤ e.fEnv∧e.fEnv < s.fEnvs∧1 ≤ e.fBegin∧lastB L < e.fBegin∧Nums e):=by
  have h0:0 ≤ lastB L:=by
    cases L with
    | nil=>exact Int.le_refl _
    | cons d L=>have:=V.2.b; show 0 ≤ d.fBegin; omega
  unfold dC Nums
  generalize lastB L = m at h0
  by_cases h1:e.fCore < 0∨e.fCore ≥ s.fCores∨e.fEnv < 0∨e.fEnv ≥ s.fEnvs∨e.fBegin ≤ m
  · have:(((((decide (e.fCore < 0)) || (decide (e.fCore ≥ s.fCores))) || (decide (e.fEnv < 0))) || (decide (e.fEnv ≥ s.fEnvs))) || (decide (e.fBegin ≤ m))) = true:=by simp; omega
    rw [this]
    exact ⟨fun h=>(by cases h),fun h=>by omega⟩
  · have:(((((decide (e.fCore < 0)) || (decide (e.fCore ≥ s.fCores))) || (decide (e.fEnv < 0))) || (decide (e.fEnv ≥ s.fEnvs))) || (decide (e.fBegin ≤ m))) = false:=by simp; omega
    rw [this]
    by_cases h2:e.fEffect = 0
    · have h3:(e.fEffect == 0) = true:=by simpa using h2
      rw [h3]
      simp only [cond_false,cond_true,beq_iff_eq]
      omega
    · have h3:(e.fEffect == 0) = false:=by simpa using h2
      rw [h3]
      simp only [cond_false,Bool.and_eq_true,Bool.or_eq_true,decide_eq_true_eq,beq_iff_eq]
      omega
theorem stops_iff {s:eH} {e:bq}:∀ {L:List bq},VL s L→lastB L < e.fBegin→(stops (L.map fun d=>(d.fCore,d.fEnd)) e = true↔∃ x ∈ L,x.fCore = e.fCore∧(x.fEnd = 0∨x.fEnd ≥ e.fBegin))
  | [],_,_=>by
    refine ⟨fun h=>?_,fun ⟨x,h,_⟩=>by cases h⟩
    simp [stops,endOf] at h
  | y::L,V,hb=>by
    have hyb:y.fBegin < e.fBegin:=hb
    have hup:=VL.up V
    have hy:=(hup y List.mem_cons_self).2
    by_cases hc:y.fCore = e.fCore
    · have e1:stops ((y::L).map fun d=>(d.fCore,d.fEnd)) e = (decide (y.fEnd ≤ 0) || decide (e.fBegin ≤ y.fEnd)):=by
        simp [stops,endOf,List.find?_cons,hc]
      rw [e1]
      simp only [Bool.or_eq_true,decide_eq_true_eq]
      constructor
      · intro h
        exact ⟨y,List.mem_cons_self,hc,by omega⟩
      · rintro ⟨x,hx,h1,h2⟩
        rcases List.mem_cons.1 hx with rfl | hx
        · omega
        · have o:=V.2.two x hx
          have:=(o.2 · )
          exfalso
          refine o.2 ⟨h1.trans hc.symm,?_⟩
          omega
    · have e1:stops ((y::L).map fun d=>(d.fCore,d.fEnd)) e = stops (L.map fun d=>(d.fCore,d.fEnd)) e:=by
        simp [stops,endOf,List.find?_cons,hc]
      have hp:=V.2.prev
      rw [e1,stops_iff V.1 (by omega)]
      constructor
      · rintro ⟨x,hx,h⟩; exact ⟨x,List.mem_cons_of_mem _ hx,h⟩
      · rintro ⟨x,hx,h1,h2⟩
        rcases List.mem_cons.1 hx with rfl | hx
        · exact absurd h1 hc
        · exact ⟨x,hx,h1,h2⟩
theorem mayFrom_iff {s:eH}:∀ (rest:List bq) {L:List bq},VL s L→(mayFrom s rest (lastB L) (L.map (·.fEffect)) (L.map fun d=>(d.fCore,d.fEnd)) = true↔VL s (rest.reverse++L))
  | [],L,V=>⟨fun _=>V,fun _=>rfl⟩
  | e::rest,L,V=>by
    have h1:=one_iff V e
    rw [mayFrom,List.reverse_cons,List.append_assoc,List.singleton_append]
    by_cases ho:dC e s (lastB L) = true
    · obtain ⟨a1,a2,a3,a4,a5,a6,a7⟩:=h1.1 ho
      have hs:=stops_iff V a6
      have step:(∀ x ∈ L,Ok2 x e)→(mayFrom s rest e.fBegin (e.fEffect::L.map (·.fEffect)) ((e.fCore,e.fEnd)::L.map fun d=>(d.fCore,d.fEnd)) = true↔VL s (rest.reverse++e::L)):=fun h=>mayFrom_iff rest (L:=e::L) ⟨V,a1,a2,a3,a4,a5,a6,a7,h⟩
      by_cases h2:e.fEffect > 0∧e.fEffect ∈ L.map (·.fEffect)
      · rw [if_pos (.inr h2)]
        refine ⟨fun h=>(by cases h),fun h=>?_⟩
        obtain ⟨x,hx,hxe⟩:=List.mem_map.1 h2.2
        exact absurd ⟨by rw [hxe]; exact h2.1,hxe⟩ ((VL.tail h).2.two x hx).1
      · rw [if_neg (by rw [ho]; rintro (h | h); cases h; exact h2 h)]
        by_cases h3:stops (L.map fun d=>(d.fCore,d.fEnd)) e = true
        · rw [if_pos h3]
          refine ⟨fun h=>(by cases h),fun h=>?_⟩
          obtain ⟨x,hx,h4,h5⟩:=hs.1 h3
          exact absurd ⟨h4,h5⟩ ((VL.tail h).2.two x hx).2
        · rw [if_neg h3]
          refine step fun x hx=>⟨fun h=>h2 ⟨by rw [← h.2]; exact h.1,List.mem_map.2 ⟨x,hx,h.2⟩⟩,fun h=>h3 (hs.2 ⟨x,hx,h.1,h.2⟩)⟩
    · rw [if_pos (.inl (by simpa using ho))]
      refine ⟨fun h=>(by cases h),fun h=>?_⟩
      have o:=(VL.tail h).2
      exact absurd (h1.2 ⟨o.c0,o.c1,o.v0,o.v1,o.b,o.prev,o.nums⟩) ho
theorem may_VL (es:List bq) (s:eH):may es s = true↔VL s es.reverse:=by
  have:=mayFrom_iff (s:=s) es (L:=[]) trivial
  rw [List.append_nil] at this
  exact this
theorem val_VL {es:List bq} {s:eH}:∀ n:Nat,n ≤ es.length→(Val es s n↔VL s (es.take n).reverse)
  | 0,_=>⟨fun _=>trivial,fun _ i e hi=>by omega⟩
  | n + 1,hn=>by
    have hlt:n < es.length:=by omega
    have ih:=val_VL (es:=es) (s:=s) n (by omega)
    rw [List.take_succ_eq_append_getElem hlt,List.reverse_append,List.reverse_singleton,List.singleton_append]
    have hl:(n = 0∧lastB (es.take n).reverse = 0)∨(n ≠ 0∧∃ d,es[n - 1]? = some d∧lastB (es.take n).reverse = d.fBegin):=by
      cases n with
      | zero=>exact .inl ⟨rfl,rfl⟩
      | succ m =>
        have hm:m < es.length:=by omega
        refine .inr ⟨by omega,es[m],aD hm,?_⟩
        rw [List.take_succ_eq_append_getElem hm,List.reverse_append]; rfl
    have hmem:∀ x,x ∈ (es.take n).reverse↔∃ k,k < n∧es[k]? = some x:=by
      intro x
      rw [List.mem_reverse,List.mem_iff_getElem?]
      constructor
      · rintro ⟨k,hk⟩
        rw [List.getElem?_take] at hk
        split at hk
        · exact ⟨k,by assumption,hk⟩
        · cases hk
      · rintro ⟨k,h1,h2⟩
        exact ⟨k,by rw [List.getElem?_take,if_pos h1]; exact h2⟩
    constructor
    · intro V
      obtain ⟨o,t⟩:=V n es[n] (by omega) (aD hlt)
      refine ⟨ih.1 fun i e hi he=>V i e (by omega) he,o.c0,o.c1,o.v0,o.v1,o.b,?_,o.nums,fun x hx=>?_⟩
      · rcases hl with ⟨_,h⟩ | ⟨h0,d,h1,h2⟩
        · rw [h]; have:=o.b; omega
        · rw [h2]; exact o.prev d h0 h1
      · obtain ⟨k,h1,h2⟩:=(hmem x).1 hx
        exact t k x h1 h2
    · rintro ⟨V,o⟩
      refine (ih.2 V).step (aD hlt) ⟨o.c0,o.c1,o.v0,o.v1,o.b,fun d h0 hd=>?_,o.nums⟩ fun k d hk hd=>o.two d ((hmem d).2 ⟨k,hk,hd⟩)
      rcases hl with ⟨h,_⟩ | ⟨_,d',h1,h2⟩
      · exact absurd h h0
      · rw [hd] at h1; cases h1
        rw [← h2]; exact o.prev
theorem may_val (es:List bq) (s:eH):may es s = true↔Val es s es.length:=by
  rw [may_VL,val_VL es.length (Nat.le_refl _),List.take_length]
end Hist
theorem sp_ref2_May (s:Sl) (es:List bq) (z:eH) (hb:es.length < 2 ^ 38):Sp Tryz.prog gZ [sv s,.agg z.C.toArray] aA [vE s es] (fun r=>pa_ (r = Hist.may es z) [vE s es]):=by
  intro h st
  refine (sp_ref2_MayHist s es z hb h st).mono fun v h' ⟨r,e,hr,s'⟩=>⟨r,e,?_,s'⟩
  have:=Hist.may_val es z
  rw [Bool.eq_iff_iff,hr,this]
end Go.Proofs.YtemoifebbhoinaaGreatDoor
namespace Go.Proofs.YtemoifebbhoinaaGreatDoor
open Go Mb
def need (kind:Int):Int:=if kind = 20 then 1 else if kind = 21 then 2 else 3
end Go.Proofs.YtemoifebbhoinaaGreatDoor
namespace Go.Proofs.YtemoifebbhoinaaGreatDoor
open Go Mb
namespace Judge
def jstep (es:List bq) (s:eH) (k:PK) (i:Int):PK:=if jv (ev es i) = true then (if well s (ev es i) = true then (PK.touch k (ev es i).fLine.fFrame (ev es i).fCall).2 else k) else (PK.do_ k (ev es i).fEnv (ev es i).fCall).2
def good (es:List bq) (s:eH) (k:PK) (i:Int):Prop:=(jv (ev es i) = true→access k es s (ev es i) = true)∧(jv (ev es i) = false→(PK.do_ k (ev es i).fEnv (ev es i).fCall).1.2 = true∧(PK.do_ k (ev es i).fEnv (ev es i).fCall).1.1 = (ev es i).fAnswer)
def Good (es:List bq) (s:eH):PK→List Int→Prop
  | _,[]=>True
  | k,i::l=>good es s k i∧Good es s (jstep es s k i) l
def jrun (es:List bq) (s:eH):PK→List Int→PK
  | k,[]=>k
  | k,i::l=>jrun es s (jstep es s k i) l
structure Alike (es es':List bq) (i:Int):Prop where
  e:ev es' i = ev es i
  o:Hist.over es' (ev es i).fEffect = Hist.over es (ev es i).fEffect
  c:∀ j ∈ Hist.over es (ev es i).fEffect,(ev es' j).fCall = (ev es j).fCall∧(ev es' j).fEnv = (ev es j).fEnv
theorem vY {k:PK} {es es':List bq} {env pg:Int}:∀ {L:List Int},(∀ j ∈ L,(ev es' j).fCall = (ev es j).fCall∧(ev es' j).fEnv = (ev es j).fEnv)→othersFrom k es' env pg L = othersFrom k es env pg L
  | [],_=>rfl
  | i::L,h=>by
    have h1:=h i (by simp)
    have ih:=vY (k:=k) (env:=env) (pg:=pg) (L:=L) (fun j hj=>h j (by simp [hj]))
    have ht:takes (ev es' i) = takes (ev es i):=by unfold takes; rw [h1.1]
    rw [othersFrom,othersFrom,ht,h1.1,h1.2,ih]
theorem Alike.access {es es':List bq} {i:Int} (A:Alike es es' i) (k:PK) (s:eH):access k es' s (ev es' i) = access k es s (ev es i):=by
  have ho:others k es' (ev es i).fEffect (ev es i).fEnv (IntKind.i64.wrap (ev es i).fCall.e1) = others k es (ev es i).fEffect (ev es i).fEnv (IntKind.i64.wrap (ev es i).fCall.e1):=by
    unfold others
    rw [A.o,vY A.c]
  unfold Judge.access
  rw [A.e,ho]
theorem Alike.good {es es':List bq} {i:Int} (A:Alike es es' i) {k:PK} {s:eH} (g:good es s k i):good es' s k i:=by
  have h:=A.access k s
  unfold Judge.good at g ⊢
  rw [h,A.e]; exact g
theorem Alike.jstep {es es':List bq} {i:Int} (A:Alike es es' i) (k:PK) (s:eH):jstep es' s k i = jstep es s k i:=by
  unfold Judge.jstep; rw [A.e]
end Judge
theorem uX (P:bq→Bool):∀ (es:List bq) (i:Int),(Hist.placesFrom P es i).Nodup
  | [],_=>.nil
  | e::es,i=>by
    rw [Hist.placesFrom]
    split
    · refine List.nodup_cons.2 ⟨fun h=>?_,uX P es (i + 1)⟩
      obtain ⟨n,_,_,h2,_⟩:=Hist.mem_placesFrom.1 h
      omega
    · exact uX P es (i + 1)
structure Log (k:KK) (log:List Int):Prop where
  mem:∀ i,i ∈ log↔∃ (n:Nat) (e:bq),k.events[n]? = some e∧i = n∧e.fEffect > 0
  up:log.Pairwise (fun a b=>Hist.eff k.events a < Hist.eff k.events b)
  good:Judge.Good k.events k.p.s (PK.new k.p.s) log
  run:Judge.jrun k.events k.p.s (PK.new k.p.s) log = k.p
theorem Log.nodup {k:KK} {log:List Int} (L:Log k log):log.Nodup:=L.up.imp (fun h e=>by rw [e] at h; exact absurd h (Int.lt_irrefl _))
theorem kh.apart {k:KK} (E:kh k):Hist.Apart k.events:=by
  intro a b ha hb he
  obtain ⟨n,d,h1,rfl,h2⟩:=Hist.mem_places.1 ha
  obtain ⟨m,e,h3,rfl,h4⟩:=Hist.mem_places.1 hb
  rw [Hist.eff_nat h1,Hist.eff_nat h3] at he
  have:=E.ef n m d e h1 h3 (by simpa using h2) he
  rw [this]
theorem Log.order {k:KK} {log:List Int} (E:kh k) (L:Log k log):log = Hist.order k.events:=by
  refine Hist.order_of E.apart ?_ (L.up.imp (fun h=>Int.le_of_lt h))
  refine (List.perm_ext_iff_of_nodup L.nodup (uX _ _ _)).2 fun i=>?_
  rw [L.mem]
  show _↔i ∈ Hist.places _ _
  rw [Hist.mem_places]
  simp
theorem Log.same {k k':KK} {log:List Int} (L:Log k log) (he:k'.events = k.events) (hp:k'.p = k.p):Log k' log:=by
  obtain ⟨a,b,c,d⟩:=L
  exact ⟨fun i=>by rw [he]; exact a i,by rw [he]; exact b,by rw [he,hp]; exact c,by rw [he,hp]; exact d⟩
theorem kh.mayFrom {k:KK} (E:kh k):∀ (n:Nat) (es:List bq),k.events.drop n = es→∀ (last:Int) (seen:List Int) (ends:List (Int × Int)),
    (∀ i e,i < n→k.events[i]? = some e→e.fBegin ≤ last∨n = 0)→(n = 0→last = 0)→(0 < n→∃ e,k.events[n - 1]? = some e∧last = e.fBegin) →
    (∀ x ∈ seen,∃ (i:Nat) (e:bq),i < n∧k.events[i]? = some e∧x = e.fEffect) →
    (∀ c v,Hist.endOf ends c = some v→∃ (i:Nat) (e:bq),i < n∧k.events[i]? = some e∧e.fCore = c∧v = e.fEnd)→Hist.mayFrom k.p.s es last seen ends = true
  | _,[],_,_,_,_,_,_,_,_,_=>rfl
  | n,e::es,hd,last,seen,ends,h1,h2,h3,h4,h5=>by
    have hn:k.events[n]? = some e:=by
      have:=congrArg (fun l=>l[0]?) hd
      simpa using this
    have o:=E.one n e hn
    have hlast:last < e.fBegin:=by
      rcases Nat.eq_zero_or_pos n with h0 | h0
      · rw [h2 h0]; have:=o.b0; omega
      · obtain ⟨d,hd1,rfl⟩:=h3 h0
        exact E.up (n - 1) n d e (by omega) hd1 hn
    have hone:dC e k.p.s last = true:=by
      unfold dC
      have c1:(((((decide (e.fCore < 0)) || (decide (e.fCore ≥ k.p.s.fCores))) || (decide (e.fEnv < 0))) || (decide (e.fEnv ≥ k.p.s.fEnvs))) || (decide (e.fBegin ≤ last))) = false:=by
        have:=o.c0; have:=o.c1; have:=o.v0; have:=o.v1
        simp; omega
      rw [c1]
      simp only [cond_false]
      rcases o.st with s | s
      · simp [s.1,s.2]
      · have hb:=o.b0
        have:(e.fEffect == 0) = false:=by simp; omega
        rw [this]
        simp only [cond_false]
        simp; omega
    rw [Hist.mayFrom]
    rw [if_neg]
    · rw [if_neg]
      · refine kh.mayFrom E (n + 1) es ?_ e.fBegin _ _ (fun i d hi hd1=>?_) (fun h=>by omega) (fun _=>⟨e,by simpa using hn,rfl⟩) (fun x hx=>?_) (fun c v hv=>?_)
        · rw [← List.drop_drop,hd]; rfl
        · left
          rcases Nat.lt_or_ge i n with h | h
          · exact Int.le_of_lt (E.up i n d e h hd1 hn)
          · have:i = n:=by omega
            subst this; rw [hn] at hd1; cases hd1; exact Int.le_refl _
        · rcases List.mem_cons.1 hx with rfl | hx
          · exact ⟨n,e,by omega,hn,rfl⟩
          · obtain ⟨i,d,a1,a2,a3⟩:=h4 x hx
            exact ⟨i,d,by omega,a2,a3⟩
        · unfold Hist.endOf at hv
          rw [List.find?_cons] at hv
          by_cases hc:(e.fCore == c) = true
          · rw [hc] at hv
            simp at hv
            exact ⟨n,e,by omega,hn,by simpa using hc,hv.symm⟩
          · have hc':(e.fCore == c) = false:=by simpa using hc
            rw [hc'] at hv
            obtain ⟨i,d,a1,a2,a3⟩:=h5 c v hv
            exact ⟨i,d,by omega,a2,a3⟩
      · unfold Hist.stops
        split
        · rename_i v hv
          obtain ⟨i,d,a1,a2,a3,rfl⟩:=h5 _ _ hv
          have:=E.co i n d e a1 a2 hn a3
          simp; omega
        · simp
    · rintro (h | ⟨h,hm⟩)
      · rw [hone] at h; cases h
      · obtain ⟨i,d,a1,a2,a3⟩:=h4 _ hm
        have:=E.ef n i e d hn a2 h a3
        omega
theorem kh.may {k:KK} (E:kh k):Hist.may k.events k.p.s = true :=
  E.mayFrom 0 k.events rfl 0 [] [] (fun i e h=>by omega) (fun _=>rfl) (fun h=>by omega) (fun x hx=>by cases hx) (fun c v hv=>by cases hv)
end Go.Proofs.YtemoifebbhoinaaGreatDoor
