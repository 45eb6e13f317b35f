/- The law PaperChecks returns true (tied card). -/
import Derived.Test.YtikannmgllejfaaGreatDoorKYS
import Derived.Test.YtikannmgllejfaaGreatDoorKNO
import Derived.Test.YtikannmgllejfaaGreatDoorKR4
import Derived.Test.YtikannmgllejfaaGreatDoorTie
import Derived.Test.YtikannmgllejfaaGreatDoorCards
import Derived.ChangeMaps5
import Derived.ProofKit
import Derived.OpenShut
import Derived.LaidMore
import Derived.Lay
import Derived.SevenTiedAt
import Derived.Stop.Joined
set_option maxRecDepth 1000000
set_option linter.all false
namespace Go.Proofs.YtikannmgllejfaaGreatDoor
open Go.RowKit Pal Go.ChangeShapes Go.WideShapes Go.ChangeAt
open Go
theorem PaperChecks_lay {W:World} (h:laidMetH Tryz.prog Rows.paperChecksRow.laid W):Lay2 W:=by
 rw [MakeChecks.laidMetH_plain _ _ _ (by kernel_rfl)] at h
 exact Zl6 (Go.Lib.laidMet.reads h (by simp [Rows.paperChecksRow])) (Go.Lib.laidMet.reads h (by simp [Rows.paperChecksRow])) (Go.Lib.laidMet.reads h (by simp [Rows.paperChecksRow])) (Go.Lib.laidMet.reads h (by simp [Rows.paperChecksRow]))
theorem PaperChecks_lifted (os:Os) (started:os.Started) (H:Type) (enc:TypeId × Value→H) :
 ReturnsInHanded {} Tryz.checked os 6 .any (fun w args=>(Rows.paperChecksSpec.pre enc Tryz.prog Tryz.f6 Rows.paperChecksRow.domain false w args∧laidMetH Tryz.prog Rows.paperChecksRow.laid w)∧sizedMet enc Tryz.prog Tryz.f6 (OpenSpec.ofChange Rows.paperChecksSpec) false w args)
  (Rows.paperChecksSpec.post enc Tryz.prog Tryz.f6 false true false false):=by
 refine returnsInHanded_of_change_and (C:=Tryz.checked) (X:=fun w _=>laidMetH Tryz.prog Rows.paperChecksRow.laid w) (fun _ _ _ hh h=>h.of_heap hh) Tryz.own started (by kernel_rfl) Tryz.func6
  (ChangeSpec.witness_shaped (enc:=enc) (C:=Tryz.checked) (os:=os) (X:=fun w _=>laidMetH Tryz.prog Rows.paperChecksRow.laid w) false (World.laidAll Tryz.prog os Rows.paperChecksRow.laid) #[.slice none 0 0,.int .i64 0,.agg #[.slice none 0 0,.slice none 0 0,.bool false]] 8 (World.laidAll_os _ _ _)
   (World.shaped_of_ZipB (by kernel_rfl) (by kernel_rfl)) (by kernel_rfl) (by kernel_rfl) (by kernel_rfl)
   (by rw [MakeChecks.laidMetH_plain _ _ _ (by kernel_rfl)]; exact laidMet_laidAll _ (by kernel_rfl) (by kernel_rfl))) ?_
 intro W base args ds gs before hval0 hW hcnd hreach hL _
 have hval:∀ (j:Nat) t v,Tryz.f6.params[j]?=some t→args[j]?=some v→Value.okWide Tryz.prog W .any base t v:=hval0
 have hW':=hW
 obtain ⟨p,q,hA0,hV,rfl,hfz,hnd⟩:=hW
 have hA:DataW.TrodAll enc Tryz.prog W 0 (fun _=>true) true Tryz.f6.params.toList args.toList ds p:=hA0
 rw [Tryz.params6] at hA hval
 obtain ⟨v0,vs0,d0,ds0,p0,q0,hargs,rfl,rfl,h0,r0⟩:=trodAll_cons hA
 obtain ⟨v1,vs1,d1,ds1,p1,q1,rfl,rfl,rfl,h1,r1⟩:=trodAll_cons r0
 obtain ⟨v2,vs2,d2,ds2,p2,q2,rfl,rfl,rfl,h2,r2⟩:=trodAll_cons r1
 obtain ⟨rfl,rfl,rfl⟩:=trodAll_nil r2
 obtain rfl:args=#[v0,v1,v2]:=by cases args; simp_all
 obtain ⟨rfl,rfl⟩:=trodVars_none hV
 have k0:=h0
 have lt0:∀ x∈p0,x.block<W.heap.size:=by obtain ⟨m,hm⟩:=k0; exact DataW.trod_lt m _ _ _ hm
 obtain ⟨a0,x0,o0⟩:=Zq0 (hval 0 22 v0 rfl rfl) h0
 obtain ⟨a1,rfl,rfl,rfl,w1⟩:=open_int Tryz.underlying3 (hval 1 3 v1 rfl rfl) h1
 have k2:=h2
 have lt2:∀ x∈p2,x.block<W.heap.size:=by obtain ⟨m,hm⟩:=k2; exact DataW.trod_lt m _ _ _ hm
 obtain ⟨a2,x2⟩:=ZsZ (hval 2 32 v2 rfl rfl) h2
 have hlay:=PaperChecks_lay hL
 clear hA0 hval0 hL
 refine (checks_walk a0 _ a1 a2 _ W hlay x0 o0 (wf_i64 w1) x2).mono fun e W' ⟨he,bel⟩=>?_
 subst he
 exact ⟨_,rfl,_,_,_,[],_,[],hW',trodAll_mk1 (shut_bool Tryz.underlying4 _),(trodAll_cons_mk (Below.trod (by kernel_rfl) (by kernel_rfl) (of_decide_eq_true (by kernel_rfl)) k0 bel lt0) (trodAll_cons_mk (shut_int Tryz.underlying3 w1) (trodAll_cons_mk (Below.trod (by kernel_rfl) (by kernel_rfl) (of_decide_eq_true (by kernel_rfl)) k2 bel lt2) trodAll_mk0))),rfl,bel.frame _,fun h=>by cases h⟩
theorem PaperChecks_f_wf:Rows.paperChecksRow.wf (OpenSpec.ofChange Rows.paperChecksSpec)=true:=by kernel_rfl
theorem PaperChecks_f_tie:namedTie Tryz.prog Rows.paperChecksRow.named Rows.paperChecksSpec.vars=true:=by kernel_rfl
theorem PaperChecks_f_place:(Rows.paperChecksRow.inPlace == Tryz.prog.inPlace 6)=true:=by kernel_rfl
theorem PaperChecks_f_unf:(Rows.paperChecksRow.unfollowed == Tryz.prog.unfollowed 6)=true:=by kernel_rfl
theorem PaperChecks_f_rec:(Rows.paperChecksRow.recurses == Tryz.prog.recurses 6)=true:=by kernel_rfl
theorem PaperChecks_f_named:(Rows.paperChecksRow.named == Tryz.prog.varsNamed 6)=true:=by kernel_rfl
theorem PaperChecks_f_loops:(Rows.paperChecksRow.loops == (Tryz.f6.params.toList++Rows.paperChecksSpec.plain.varTypes Tryz.prog).any (Tryz.prog.loopsFrom ·))=true:=by kernel_rfl
theorem PaperChecks_f_read:Rows.paperChecksSpec.vars.all (Tryz.prog.varReadable ·)=true:=by kernel_rfl
theorem PaperChecks_f_pin:(Rows.paperChecksRow.pinned == Rows.paperChecksRow.pinnedBy)=true:=by kernel_rfl
theorem PaperChecks_f_text:Rows.paperChecksRow.wfByText (OpenSpec.ofChange Rows.paperChecksSpec)=true:=by kernel_rfl
theorem PaperChecks_f_goes:false=Rows.paperChecksRow.goesBy Tryz.prog:=by kernel_rfl
theorem PaperChecks_closed:joinedFacts Tryz.prog 6 Tryz.f6 Rows.paperChecksSpec Rows.paperChecksRow=true:=by
 unfold joinedFacts
 simp only [Bool.and_eq_true]
 exact ⟨⟨⟨⟨⟨⟨⟨⟨⟨⟨⟨⟨⟨⟨⟨⟨⟨⟨⟨⟨⟨⟨⟨⟨⟨⟨⟨⟨⟨⟨⟨PaperChecks_f_wf,Zq1⟩,Zq2⟩,(by kernel_rfl)⟩,PaperChecks_f_tie⟩,(by kernel_rfl)⟩,(by kernel_rfl)⟩,(by kernel_rfl)⟩,(by kernel_rfl)⟩,PaperChecks_f_place⟩,PaperChecks_f_unf⟩,PaperChecks_f_rec⟩,PaperChecks_f_named⟩,(by kernel_rfl)⟩,(by kernel_rfl)⟩,(by kernel_rfl)⟩,PaperChecks_f_loops⟩,(by kernel_rfl)⟩,PaperChecks_f_read⟩,(by kernel_rfl)⟩,(by kernel_rfl)⟩,(by kernel_rfl)⟩,Zq3⟩,(by kernel_rfl)⟩,Zq4⟩,Zq5⟩,Zq6⟩,(by kernel_rfl)⟩,(by kernel_rfl)⟩,PaperChecks_f_pin⟩,(by kernel_rfl)⟩,(by kernel_rfl)⟩
theorem PaperChecks_row:Rows.PaperChecksSaid :=
 OpenClaim.holds_of_wide 6 Tryz.f6 rfl rfl rfl rfl rfl rfl rfl ⟨rfl,rfl,rfl,rfl,rfl⟩ rfl rfl rfl rfl rfl (by kernel_rfl) Tryz.func6 PaperChecks_closed
  (of_decide_eq_true (by kernel_rfl)) (by unfold Func.isWrapper; first|(rw [if_pos (by decide +kernel)]; kernel_rfl)|(rw [if_neg (by decide +kernel)]; exact ⟨rfl,rfl⟩))
  (fun os started H enc _=>PaperChecks_lifted os started H enc)
theorem PaperChecks_holds:Rows.PaperChecksCardSaid :=
 Claim7.holds_tied_plain_at .later [] [.data, .data, .data, .data, .sentinel, .sentinel, .pinned] true (true, "68d465196905732aa604b99fce1e103512a92f866817974889a1ab34cb4258a9") true
  PaperChecks_row (fun _ h=>by cases h) PaperChecks_f_text (fun _ h=>by cases h) paperChecks_row_tie rfl ⟨rfl,rfl⟩ (by kernel_rfl) rfl
  (fun f fn hf hfn=>by
   obtain rfl : f = 6 := Option.some.inj ((show Tryz.prog.funcNamed "palaver/palaverlaw12.PaperChecks" = some 6 by kernel_rfl).symm.trans hf) |>.symm
   obtain rfl:fn=Tryz.f6:=(Option.some.inj (Tryz.func6.symm.trans hfn)).symm
   exact ⟨by kernel_rfl,fun j t ht=>by
    rw [Tryz.params6] at ht
    have hm:t∈[22,3,32]:=by simpa using Array.mem_of_getElem? ht
    have hall:([22,3,32].all fun u=>!Tryz.prog.wantsStandIn u)=true:=by kernel_rfl
    exact (show Tryz.prog.wantsStandIn t=false by simpa using List.all_eq_true.1 hall t hm)⟩)
  PaperChecks_f_goes
#print axioms PaperChecks_holds
end Go.Proofs.YtikannmgllejfaaGreatDoor
