/- For every input, the law FnShifts returns true, and its inputs read as they did: the tied card. No condition is put on the input. -/
import Derived.Test.YtfhnlkinjbakgaaGreatDoorRows
import Derived.Test.YtfhnlkinjbakgaaGreatDoorCards
import Derived.Test.YtfhnlkinjbakgaaGreatDoorTie
import Derived.Test.YtfhnlkinjbakgaaGreatDoorShfMc
import Derived.Test.YtfhnlkinjbakgaaGreatDoorShfWhole
import Derived.Test.YtfhnlkinjbakgaaGreatDoorShfK0
import Derived.Test.YtfhnlkinjbakgaaGreatDoorShfK1
import Derived.Test.YtfhnlkinjbakgaaGreatDoorShfK2
import Derived.Test.YtfhnlkinjbakgaaGreatDoorShfK3
import Derived.Test.YtfhnlkinjbakgaaGreatDoorShfK4
import Derived.Test.YtfhnlkinjbakgaaGreatDoorShfQb
import Derived.SizedLaws
import Derived.ChangeSame
import Derived.ChangeVars
import Derived.JoinedOf
import Derived.JoinedAt
import Derived.RowKit3
import Derived.LaidLaws
import Derived.Lib.LaidTab
import Derived.Lib.LaidIn
import Derived.SevenTiedAt
import Derived.HandedShaped
import Derived.Stop.LaidErr
import Derived.Shelf.Vars
import Derived.ChangeMaps5
namespace Go.Proofs.YtfhnlkinjbakgaaGreatDoor.fnShifts
open Go.ChangeShapes Go.WideShapes Go.ChangeAt Go.RowKit
open Go.ChangeMaps (open_string shut_string)
open Go.Proofs.YtfhnlkinjbakgaaGreatDoor.Abs
set_option linter.unusedVariables false
theorem own : ownKnob Tryz.prog.godebug = none:=by kernel_rfl
theorem laidOut : laidOutB Tryz.prog = true:=whole1
def laid7 : List (String × DataW Unit):=Rows.fnShiftsRow.laid
theorem laid_tail {P : Program} {w : World} {a : String × DataW Unit} {l : List (String × DataW Unit)} (h : laidMet P (a :: l) w) : laidMet P l w:=laidMet.tail h
theorem tab_of_laid {w : World} (h : laidMet Tryz.prog laid7 w) : PFnShifts.Tab w:=
  Lib.tabIs_of_head (g := 5) (t := 193) (e := 82) (n := 20) (rest := [("unicode/utf8.acceptRanges", Rows.laid_unicode_utf8_acceptRanges), ("strconv.ErrRange", Rows.laid_strconv_ErrRange), ("strconv.ErrSyntax", Rows.laid_strconv_ErrSyntax), ("unicode/utf8.first", Rows.laid_unicode_utf8_first)]) (by kernel_rfl) (by kernel_rfl) (by kernel_rfl) (by kernel_rfl) (by kernel_rfl) (by kernel_rfl) (laid_tail (laid_tail h))
theorem row106 (u : TypeId) (h : Tryz.prog.typeName? 3 u = some "*errors.errorString") : u = 189 :=
  typeName_ptr_named (nm := "errors.errorString") (by kernel_rfl) (by kernel_rfl) (by decide) u h
theorem errs_of_laid {w : World} (h : laidMet Tryz.prog laid7 w) : PFnShifts.Errs w:=by
  have h4:=laid_tail (laid_tail (laid_tail (laid_tail h)))
  obtain ⟨a0, s0, hv0, -, -, -⟩ := laid_sentinel (P := Tryz.prog) (n := "strconv.ErrRange") (g := 2) (ti := 106) (tp := 189) (te := 191) (ts := 9) h4 (by kernel_rfl) (by kernel_rfl) Tryz.underlying106 row106 Tryz.underlying189 Tryz.underlying191 rfl rfl Tryz.underlying9 (by kernel_rfl) (by kernel_rfl)
  obtain ⟨a1, s1, hv1, -, -, -⟩ := laid_sentinel (P := Tryz.prog) (n := "strconv.ErrSyntax") (g := 1) (ti := 106) (tp := 189) (te := 191) (ts := 9) (laid_tail h4) (by kernel_rfl) (by kernel_rfl) Tryz.underlying106 row106 Tryz.underlying189 Tryz.underlying191 rfl rfl Tryz.underlying9 (by kernel_rfl) (by kernel_rfl)
  exact ⟨⟨_,_,hv1⟩,_,_,hv0⟩
theorem lens_of_shaped {w : World} (h : w.ShapedOpen Tryz.prog) : PFnShifts.Lens w:=
  cell_of_shapedOpen_int (P:=Tryz.prog) (g:=0) (t:=3) (zero:=#[.int .i64 0]) h (of_decide_eq_true (by kernel_rfl)) (by kernel_rfl) rfl (by kernel_rfl) (by kernel_rfl) Tryz.underlying3
theorem size_of_laid {w : World} (h : laidMet Tryz.prog laid7 w) : G0 ≤ w.heap.size:=by
  have h2 : Lib.TabIs Tryz.prog w "math/bits.deBruijn64tab" .u8 [0, 1, 56, 2, 57, 49, 28, 3, 61, 58, 42, 50, 38, 29, 17, 4, 62, 47, 59, 36, 45, 43, 51, 22, 53, 39, 33, 30, 24, 18, 12, 5, 63, 55, 48, 27, 60, 41, 37, 16, 46, 35, 44, 21, 52, 32, 23, 11, 54, 26, 40, 15, 34, 20, 31, 10, 25, 14, 19, 9, 13, 8, 7, 6] :=
    Lib.tabIs_of_head (g := 9) (t := 202) (e := 5) (n := 64) (rest := [("internal/strconv.uint64pow10", Rows.laid_internal_strconv_uint64pow10), ("unicode/utf8.acceptRanges", Rows.laid_unicode_utf8_acceptRanges), ("strconv.ErrRange", Rows.laid_strconv_ErrRange), ("strconv.ErrSyntax", Rows.laid_strconv_ErrSyntax), ("unicode/utf8.first", Rows.laid_unicode_utf8_first)]) (by kernel_rfl) (by kernel_rfl) (by kernel_rfl) (by kernel_rfl) (by kernel_rfl) (by kernel_rfl) (laid_tail h)
  unfold Lib.TabIs World.var? at h2
  rw [show Tryz.prog.globalNamed "math/bits.deBruijn64tab" = some 9 by kernel_rfl] at h2
  simp only [Option.bind_some] at h2
  rcases Nat.lt_or_ge 9 w.heap.size with h' | h'
  · exact h'
  · rw [Array.getElem?_eq_none h'] at h2; cases h2
theorem inv_of {w : World} (h : laidMet Tryz.prog laid7 w) (hs : w.ShapedOpen Tryz.prog) : Inv w:=⟨size_of_laid h,tab_of_laid h,errs_of_laid h,lens_of_shaped hs⟩
def tab32 : Array Value:=#[0,1,28,2,29,14,24,3,30,22,20,15,25,17,4,8,31,27,13,23,21,19,16,7,26,12,18,6,11,5,10,9].map fun z : Int=>Value.int .u8 z
def tab64 : Array Value:=#[0,1,56,2,57,49,28,3,61,58,42,50,38,29,17,4,62,47,59,36,45,43,51,22,53,39,33,30,24,18,12,5,63,55,48,27,60,41,37,16,46,35,44,21,52,32,23,11,54,26,40,15,34,20,31,10,25,14,19,9,13,8,7,6].map fun z : Int=>Value.int .u8 z
def nums8 (l : List Nat) : Array Value:=(l.map fun z : Nat=>Value.int .u8 (z : Int)).toArray
def ranges : Array Value:=nums8 [128,191,160,191,128,159,144,191,128,143,0,0,0,0,0,0,0,0,0,0,0,0,0,0,0,0,0,0,0,0,0,0]
abbrev synS : ByteArray:={ data:=#[105,110,118,97,108,105,100,32,115,121,110,116,97,120] }
abbrev rngS : ByteArray:={ data:=#[118,97,108,117,101,32,111,117,116,32,111,102,32,114,97,110,103,101] }
noncomputable def low : Nat:=(World.holding Tryz.prog default ⟨#[],#[],[]⟩).heap.size
noncomputable def laidWorld (os : Os) : World:=
  let w0:=World.holding Tryz.prog os ⟨#[.cells #[.string synS] 191,.cells #[.string rngS] 191],#[],[]⟩
  { w0 with heap:=((((((w0.heap.modify 5 fun
      | .cells _ t frozen=>.cells (Lib.pow10Tab.map fun z=>Value.int .u64 z).toArray t frozen
      | o=>o).modify 8 fun
      | .cells _ t frozen=>.cells tab32 t frozen
      | o=>o).modify 9 fun
      | .cells _ t frozen=>.cells tab64 t frozen
      | o=>o).modify 3 fun
      | .cells _ t frozen=>.cells (nums8 Go.Pinned.utf8FirstZ) t frozen
      | o=>o).modify 4 fun
      | .cells _ t frozen=>.cells ranges t frozen
      | o=>o).modify 1 fun
      | .cells _ t frozen=>.cells #[.iface 189 (.pointer (some ⟨low,0,none⟩))] t frozen
      | o=>o).modify 2 fun
      | .cells _ t frozen=>.cells #[.iface 189 (.pointer (some ⟨low + 1,0,none⟩))] t frozen
      | o=>o }
theorem laid_met (os : Os) (args : Array Value) : laidMet Tryz.prog laid7 ((laidWorld os).forCall (fun _ _=>0) ⟨#[],args,[]⟩).memory:=
  (LaidIn.of_run [8,9,5,4,2,1,3,low,low + 1] 8 (by kernel_rfl) (by kernel_rfl) (by kernel_rfl) (by kernel_rfl)).met
theorem handed {H : Type} {enc : TypeId × Value → H} {a : Assume} {C : Checked} {os : Os} {f : FuncId} {fn : Func} {s : ChangeSpec} {conds : List PathCond} {apart fresh handsOn again : Bool} {X : World → Array Value → Prop}
    (hX : ∀ (w w' : World) (args : Array Value),w.heap = w'.heap → X w args → X w' args)
    (own : ownKnob C.prog.godebug = none) (started : os.Started) (noInit : C.prog.inits.idxOf? f = none) (hfn : C.prog.funcs[f]? = some fn)
    (witness : ∃ (w : World) (tape : Tape) (i : Input),w.os = os ∧ (w.forCall tape i).Shaped C.prog ∧ i.vars = [] ∧ Input.okWide C.prog (w.forCall tape i) .any w.heap.size f i ∧
      ((s.pre enc C.prog fn conds apart (w.forCall tape i).memory i.args ∧ X (w.forCall tape i).memory i.args) ∧ sizedMet enc C.prog fn (OpenSpec.ofChange s) apart (w.forCall tape i).memory i.args) ∧ a.holds C.prog (lone (Frame.enter C.prog f i.args .normal) [] (w.forCall tape i)))
    (contract : ∀ (W : World) (base : Nat) (args : Array Value) (ds gs : List (DataW H)) (before : List MemPlace),
      (∀ (j : Nat) t v,fn.params[j]? = some t → args[j]? = some v → Value.okWide C.prog W .any base t v) →
      DataW.Whole enc C.prog fn.params.toList s.vars apart W args.toList ds gs before →
      W.ShapedOpen C.prog → X W args →
      Calls C.prog f args W fun e W'=>∃ v,e = .returned v ∧ s.post enc C.prog fn apart fresh handsOn again W args v W') :
    ReturnsInHanded a C os f .any (fun w args=>(s.pre enc C.prog fn conds apart w args ∧ X w args) ∧ sizedMet enc C.prog fn (OpenSpec.ofChange s) apart w args) (s.post enc C.prog fn apart fresh handsOn again):=by
  refine returnsInHanded_of_calls own started noInit witness ?_
  intro w tape i _ hsh _ hok hpre _
  obtain ⟨_,_,_,fn',hfn',_,_,_,_,hval⟩:=hok
  have e : fn' = fn:=Option.some.inj (hfn'.symm.trans hfn)
  subst e
  obtain ⟨⟨⟨ds,gs,before,hw,hc⟩,hx⟩,hz⟩:=hpre
  have hw':=DataW.Whole.of_heap (w':=w.forCall tape i) (by rfl) hw
  refine (contract (w.forCall tape i) w.heap.size i.args ds gs before hval hw' hsh (hX _ _ _ (by rfl) hx)).mono fun e W' ⟨v,he,hp⟩=>?_
  subst he
  exact ChangeSpec.post_blind hp
set_option maxRecDepth 100000 in
theorem lifted (os : Os) (started : os.Started) (H : Type) (enc : TypeId × Value → H) :
    ReturnsInHanded {} Tryz.checked os 3 .any (fun w args=>(Rows.fnShiftsSpec.pre enc Tryz.prog Tryz.f3 Rows.fnShiftsRow.domain false w args ∧ laidMet Tryz.prog laid7 w) ∧ sizedMet enc Tryz.prog Tryz.f3 (OpenSpec.ofChange Rows.fnShiftsSpec) false w args)
      (Rows.fnShiftsSpec.post enc Tryz.prog Tryz.f3 false true false false):=by
  refine handed (C:=Tryz.checked) (X:=fun w _=>laidMet Tryz.prog laid7 w) (fun _ _ _ hh h=>h.of_heap hh) own started (by kernel_rfl) Tryz.func3
    (ChangeSpec.witness_at (enc:=enc) (C:=Tryz.checked) (os:=os) (X:=fun w _=>laidMet Tryz.prog laid7 w) false (laidWorld os) #[.slice none 0 0,.slice none 0 0] 8 rfl (by kernel_rfl) (by kernel_rfl) (by kernel_rfl) (by kernel_rfl) (by kernel_rfl) (laid_met os _)) ?_
  intro W base args ds gs before hval0 hW hsh hL
  have hval : ∀ (j : Nat) t v,Tryz.f3.params[j]? = some t → args[j]? = some v → Value.okWide Tryz.prog W .any base t v:=hval0
  have hW':=hW
  obtain ⟨p,q,hA0,hV,rfl,hfz,hnd⟩:=hW
  have hA : DataW.TrodAll enc Tryz.prog W 0 (fun _=>true) true Tryz.f3.params.toList args.toList ds p:=hA0
  rw [Tryz.params3] at hA hval
  obtain ⟨v0,vs0,d0,ds0,p0,q0,hargs,rfl,rfl,h0,r0⟩:=trodAll_cons hA
  obtain ⟨v1,vs1,d1,ds1,p1,q1,rfl,rfl,rfl,h1,r1⟩:=trodAll_cons r0
  obtain ⟨rfl,rfl,rfl⟩:=trodAll_nil r1
  obtain rfl : args = #[v0,v1]:=by cases args; simp_all
  obtain ⟨rfl,rfl⟩:=trodVars_none hV
  have lt0 : ∀ x ∈ p0,x.block < W.heap.size:=by obtain ⟨m,hm⟩:=h0; exact DataW.trod_lt m _ _ _ hm
  have b0:=open_bytes Tryz.underlying22 Tryz.underlying5 (by kernel_rfl) (hval 0 22 v0 rfl rfl) h0
  have lt1 : ∀ x ∈ p1,x.block < W.heap.size:=by obtain ⟨m,hm⟩:=h1; exact DataW.trod_lt m _ _ _ hm
  have b1:=open_bytes Tryz.underlying22 Tryz.underlying5 (by kernel_rfl) (hval 1 22 v1 rfl rfl) h1
  have hc:=bytes2 (P:=Tryz.prog) (f:=3) (r:=vB true) (inv_of hL hsh) rfl b0 b1 (fun C D=>by have h:=ol_FnShifts C D; rw [pure_FnShifts C D] at h; exact h) (fun C=>by have h:=ol_FnShifts_ln C; rw [pure_FnShifts C Cd.nil] at h; exact h) (fun C=>by have h:=ol_FnShifts_nl C; rw [pure_FnShifts Cd.nil C] at h; exact h) (by have h:=ol_FnShifts_nn; rw [pure_FnShifts Cd.nil Cd.nil] at h; exact h) (fun C V=>by have h:=ol_FnShifts_lv C V; rw [pure_FnShifts C (C.vw V)] at h; exact h)
  refine hc.mono fun e W' ⟨he,bel⟩=>?_
  subst he
  exact ⟨_,rfl,_,_,_,[],_,[],hW',trodAll_mk1 (shut_bool Tryz.underlying4 _),(trodAll_cons_mk (Below.trod laidOut (by kernel_rfl) (of_decide_eq_true (by kernel_rfl)) h0 bel lt0) (trodAll_cons_mk (Below.trod laidOut (by kernel_rfl) (of_decide_eq_true (by kernel_rfl)) h1 bel lt1) trodAll_mk0)),rfl,bel.frame _,fun h=>by cases h⟩
theorem j0 : (Rows.fnShiftsRow.wf (OpenSpec.ofChange Rows.fnShiftsSpec)) = true:=by kernel_rfl
theorem j1 : (laidOutB Tryz.prog) = true:=whole1
theorem j2 : (mapsRowed Tryz.prog) = true:=whole2
theorem j3 : (Tryz.f3.params.all (Tryz.prog.readableRec ·)) = true:=by kernel_rfl
theorem j4 : (namedTie Tryz.prog Rows.fnShiftsRow.named Rows.fnShiftsSpec.vars) = true:=by kernel_rfl
theorem j5 : (Rows.fnShiftsRow.stops == []) = true:=by kernel_rfl
theorem j6 : (Tryz.prog.stops == []) = true:=whole6
theorem j7 : (Rows.fnShiftsRow.knobs == []) = true:=by kernel_rfl
theorem j8 : (Tryz.prog.stopKnobs == []) = true:=whole8
theorem j9 : (Rows.fnShiftsRow.inPlace == Tryz.prog.inPlace 3) = true:=by kernel_rfl
theorem j10 : (Rows.fnShiftsRow.unfollowed == Tryz.prog.unfollowed 3) = true:=by kernel_rfl
theorem j11 : (Rows.fnShiftsRow.recurses == Tryz.prog.recurses 3) = true:=by kernel_rfl
theorem j12 : (Rows.fnShiftsRow.named == Tryz.prog.varsNamed 3) = true:=by kernel_rfl
theorem j13 : (Rows.fnShiftsRow.maps == (Tryz.f3.params.toList ++ Rows.fnShiftsSpec.plain.varTypes Tryz.prog).any (Tryz.prog.mapsRec ·)) = true:=by kernel_rfl
theorem j14 : (Rows.fnShiftsRow.ifaces == (Tryz.f3.params.toList ++ Rows.fnShiftsSpec.plain.varTypes Tryz.prog).any (Tryz.prog.ifacesRec ·)) = true:=by kernel_rfl
theorem j15 : (Rows.fnShiftsRow.mapsOut == Tryz.prog.mapsAmong Tryz.f3.resultTypes.toList) = true:=by kernel_rfl
theorem j16 : (Rows.fnShiftsRow.loops == (Tryz.f3.params.toList ++ Rows.fnShiftsSpec.plain.varTypes Tryz.prog).any (Tryz.prog.loopsFrom ·)) = true:=by kernel_rfl
theorem j17 : (Rows.fnShiftsRow.wideKeys == (Tryz.f3.params.toList ++ Rows.fnShiftsSpec.plain.varTypes Tryz.prog ++ Tryz.f3.resultTypes.toList).any (Tryz.prog.wideKeysFrom ·)) = true:=by kernel_rfl
theorem j18 : (Rows.fnShiftsSpec.vars.all (Tryz.prog.varReadable ·)) = true:=by kernel_rfl
theorem j19 : (Tryz.f3.resultTypes.all (fun t=>Tryz.prog.readableRec t && decide (t < Tryz.prog.types.size))) = true:=by kernel_rfl
theorem j20 : (Rows.fnShiftsRow.ifacesOut == Tryz.f3.resultTypes.toList.any (Tryz.prog.ifacesRec ·)) = true:=by kernel_rfl
theorem j21 : (Rows.fnShiftsRow.loopsOut == Tryz.f3.resultTypes.toList.any (Tryz.prog.loopsFrom ·)) = true:=by kernel_rfl
theorem j22 : (Rows.fnShiftsRow.plainKeys == Tryz.prog.plainKeys) = true:=whole22
theorem j23 : (Rows.fnShiftsRow.shortTexts.isNone) = true:=by kernel_rfl
theorem j24 : (Tryz.prog.stopsHeard) = true:=whole24
theorem j25 : (Tryz.prog.mayEnter) = true:=whole25
theorem j26 : (Rows.fnShiftsRow.lifted == Tryz.prog.liftsFinal) = true:=whole26
theorem j27 : (Tryz.prog.make == some Rows.fnShiftsRow.make) = true:=whole27
theorem j28 : (Rows.fnShiftsRow.kinds == (if Rows.fnShiftsRow.domain.isEmpty then [] else Tryz.f3.params.toList.map fun t=>match Tryz.prog.underlying t with | some (.int k)=>some k | _=>none)) = true:=by kernel_rfl
theorem j29 : (Rows.fnShiftsRow.pinned == Rows.fnShiftsRow.pinnedBy) = true:=by kernel_rfl
theorem j30 : (Rows.fnShiftsRow.veiled == (Tryz.f3.params.toList ++ Rows.fnShiftsSpec.plain.varTypes Tryz.prog ++ Tryz.f3.resultTypes.toList).any (Tryz.prog.veiledRec ·)) = true:=by kernel_rfl
theorem j31 : (Rows.fnShiftsRow.veiledFits Tryz.prog Tryz.f3.params.toList (Tryz.f3.params.toList ++ Rows.fnShiftsSpec.plain.varTypes Tryz.prog ++ Tryz.f3.resultTypes.toList)) = true:=by kernel_rfl
set_option maxRecDepth 100000 in
theorem closed : joinedFacts Tryz.prog 3 Tryz.f3 Rows.fnShiftsSpec Rows.fnShiftsRow = true:=and_mk (and_mk (and_mk (and_mk (and_mk (and_mk (and_mk (and_mk (and_mk (and_mk (and_mk (and_mk (and_mk (and_mk (and_mk (and_mk (and_mk (and_mk (and_mk (and_mk (and_mk (and_mk (and_mk (and_mk (and_mk (and_mk (and_mk (and_mk (and_mk (and_mk (and_mk (j0) j1) j2) j3) j4) j5) j6) j7) j8) j9) j10) j11) j12) j13) j14) j15) j16) j17) j18) j19) j20) j21) j22) j23) j24) j25) j26) j27) j28) j29) j30) j31
theorem over : Rows.fnShiftsRow.holds Tryz.pinned (OpenSpec.ofChange Rows.fnShiftsSpec):=
  OpenClaim.holds_of_wide 3 Tryz.f3 rfl rfl rfl rfl rfl rfl rfl ⟨rfl,rfl,rfl,rfl,rfl⟩ rfl rfl rfl rfl rfl (by kernel_rfl) Tryz.func3 closed
    (of_decide_eq_true (by kernel_rfl)) (by unfold Func.isWrapper; first | (rw [if_pos (by decide +kernel)]; kernel_rfl) | (rw [if_neg (by decide +kernel)]; exact ⟨rfl,rfl⟩))
    (fun os started H enc _=>lifted os started H enc)
theorem card : Claim7.holds Tryz.pinned (.plain (OpenSpec.ofChange Rows.fnShiftsSpec)) Rows.fnShiftsCard:=
  Claim7.holds_tied_plain_at .later [] [.data, .data, .data, .data, .sentinel, .sentinel, .pinned] true (true, "fa2d436f08cac28f5b98c4f0485cfb4b86a1168a572fd10897598d42efd2d053") true
    over (fun _ h=>by cases h) (by kernel_rfl) (fun _ h=>by cases h) fnShifts_row_tie rfl ⟨rfl,rfl⟩ (by kernel_rfl) rfl
    (fun f fn hf hfn=>by
      obtain rfl : f = 3 := Option.some.inj ((show Tryz.prog.funcNamed "loop.example/g00880/laws.FnShifts" = some 3 by kernel_rfl).symm.trans hf) |>.symm
      obtain rfl : fn = Tryz.f3:=(Option.some.inj (Tryz.func3.symm.trans hfn)).symm
      exact ⟨by kernel_rfl,fun j t ht=>by
        rw [Tryz.params3] at ht
        have h3 : t = 22:=by
          rcases j with _ | _ | j
          · simpa using ht.symm
          · simpa using ht.symm
          · simp at ht
        subst h3
        exact (show Tryz.prog.wantsStandIn 22 = false by kernel_rfl)⟩)
    (by kernel_rfl)
end Go.Proofs.YtfhnlkinjbakgaaGreatDoor.fnShifts
namespace Go.Proofs.YtfhnlkinjbakgaaGreatDoor
theorem fnShiftsCard_holds : Rows.FnShiftsCardSaid:=fnShifts.card
#print axioms fnShiftsCard_holds
end Go.Proofs.YtfhnlkinjbakgaaGreatDoor
