/- The law SchemaNews returns true (tied card). -/
import Derived.Test.YtpfhhikbaeknpaaGreatDoorKUN
import Derived.Test.YtpfhhikbaeknpaaGreatDoorKR2
import Derived.Test.YtpfhhikbaeknpaaGreatDoorKR4
import Derived.Test.YtpfhhikbaeknpaaGreatDoorTie
import Derived.Test.YtpfhhikbaeknpaaGreatDoorCards
import Derived.ChangeMaps5
import Derived.ProofKit
import Derived.OpenShut
import Derived.LaidMore
import Derived.Lay
import Derived.SevenTiedAt
import Derived.Stop.Joined
set_option maxRecDepth 1000000
set_option linter.all false
namespace Go.Proofs.YtpfhhikbaeknpaaGreatDoor
open Go.RowKit Pal Go.ChangeShapes Go.WideShapes Go.ChangeAt
open Go
theorem SchemaNews_lay {W:World} (h:laidMetH Tryz.prog Rows.schemaNewsRow.laid W):Lay2 W:=by
 rw [MakeChecks.laidMetH_plain _ _ _ (by kernel_rfl)] at h
 refine Zl1 ?_ ?_ ?_ ?_<;>exact Go.Lib.laidMet.reads h (by simp [Rows.schemaNewsRow])
theorem SchemaNews_lifted (os:Os) (started:os.Started) (H:Type) (enc:TypeId × Value→H) :
 ReturnsInHanded {} Tryz.checked os 8 .any (fun w args=>(Rows.schemaNewsSpec.pre enc Tryz.prog Tryz.f8 Rows.schemaNewsRow.domain false w args∧laidMetH Tryz.prog Rows.schemaNewsRow.laid w)∧sizedMet enc Tryz.prog Tryz.f8 (OpenSpec.ofChange Rows.schemaNewsSpec) false w args)
  (Rows.schemaNewsSpec.post enc Tryz.prog Tryz.f8 false true false false):=by
 refine returnsInHanded_of_change_and (C:=Tryz.checked) (X:=fun w _=>laidMetH Tryz.prog Rows.schemaNewsRow.laid w) (fun _ _ _ hh h=>h.of_heap hh) Tryz.own started (by kernel_rfl) Tryz.func8
  (ChangeSpec.witness_shaped (enc:=enc) (C:=Tryz.checked) (os:=os) (X:=fun w _=>laidMetH Tryz.prog Rows.schemaNewsRow.laid w) false (World.laidAll Tryz.prog os Rows.schemaNewsRow.laid) #[.slice none 0 0] 8 (World.laidAll_os _ _ _)
   (World.shaped_of_ZipB (by kernel_rfl) (by kernel_rfl)) (by kernel_rfl) (by kernel_rfl) (by kernel_rfl)
   (by rw [MakeChecks.laidMetH_plain _ _ _ (by kernel_rfl)]; exact laidMet_laidAll _ (by kernel_rfl) (by kernel_rfl))) ?_
 intro W base args ds gs before hval0 hW hcnd hreach hL _
 have hval:∀ (j:Nat) t v,Tryz.f8.params[j]?=some t→args[j]?=some v→Value.okWide Tryz.prog W .any base t v:=hval0
 have hW':=hW
 obtain ⟨p,q,hA0,hV,rfl,hfz,hnd⟩:=hW
 have hA:DataW.TrodAll enc Tryz.prog W 0 (fun _=>true) true Tryz.f8.params.toList args.toList ds p:=hA0
 rw [Tryz.params8] at hA hval
 obtain ⟨v0,vs0,d0,ds0,p0,q0,hargs,rfl,rfl,h0,r0⟩:=trodAll_cons hA
 obtain ⟨rfl,rfl,rfl⟩:=trodAll_nil r0
 obtain rfl:args=#[v0]:=by cases args; simp_all
 obtain ⟨rfl,rfl⟩:=trodVars_none hV
 have k0:=h0
 have lt0:∀ x∈p0,x.block<W.heap.size:=by obtain ⟨m,hm⟩:=k0; exact DataW.trod_lt m _ _ _ hm
 obtain ⟨a0,x0,o0⟩:=Zok (hval 0 25 v0 rfl rfl) h0
 have hlay:=SchemaNews_lay hL
 clear hA0 hval0 hL
 refine (news_walk a0 _ W hlay x0 o0).mono fun e W' ⟨he,bel⟩=>?_
 subst he
 exact ⟨_,rfl,_,_,_,[],_,[],hW',trodAll_mk1 (shut_bool Tryz.underlying4 _),(trodAll_cons_mk (Below.trod (by kernel_rfl) (by kernel_rfl) (of_decide_eq_true (by kernel_rfl)) k0 bel lt0) trodAll_mk0),rfl,bel.frame _,fun h=>by cases h⟩
theorem SchemaNews_f_wf:Rows.schemaNewsRow.wf (OpenSpec.ofChange Rows.schemaNewsSpec)=true:=by kernel_rfl
theorem SchemaNews_f_tie:namedTie Tryz.prog Rows.schemaNewsRow.named Rows.schemaNewsSpec.vars=true:=by kernel_rfl
theorem SchemaNews_f_place:(Rows.schemaNewsRow.inPlace == Tryz.prog.inPlace 8)=true:=by kernel_rfl
theorem SchemaNews_f_unf:(Rows.schemaNewsRow.unfollowed == Tryz.prog.unfollowed 8)=true:=by kernel_rfl
theorem SchemaNews_f_rec:(Rows.schemaNewsRow.recurses == Tryz.prog.recurses 8)=true:=by kernel_rfl
theorem SchemaNews_f_named:(Rows.schemaNewsRow.named == Tryz.prog.varsNamed 8)=true:=by kernel_rfl
theorem SchemaNews_f_loops:(Rows.schemaNewsRow.loops == (Tryz.f8.params.toList++Rows.schemaNewsSpec.plain.varTypes Tryz.prog).any (Tryz.prog.loopsFrom ·))=true:=by kernel_rfl
theorem SchemaNews_f_read:Rows.schemaNewsSpec.vars.all (Tryz.prog.varReadable ·)=true:=by kernel_rfl
theorem SchemaNews_f_pin:(Rows.schemaNewsRow.pinned == Rows.schemaNewsRow.pinnedBy)=true:=by kernel_rfl
theorem SchemaNews_f_text:Rows.schemaNewsRow.wfByText (OpenSpec.ofChange Rows.schemaNewsSpec)=true:=by kernel_rfl
theorem SchemaNews_f_goes:false=Rows.schemaNewsRow.goesBy Tryz.prog:=by kernel_rfl
theorem SchemaNews_closed:joinedFacts Tryz.prog 8 Tryz.f8 Rows.schemaNewsSpec Rows.schemaNewsRow=true:=by
 unfold joinedFacts
 simp only [Bool.and_eq_true]
 exact ⟨⟨⟨⟨⟨⟨⟨⟨⟨⟨⟨⟨⟨⟨⟨⟨⟨⟨⟨⟨⟨⟨⟨⟨⟨⟨⟨⟨⟨⟨⟨SchemaNews_f_wf,ZoN⟩,ZoO⟩,(by kernel_rfl)⟩,SchemaNews_f_tie⟩,(by kernel_rfl)⟩,(by kernel_rfl)⟩,(by kernel_rfl)⟩,(by kernel_rfl)⟩,SchemaNews_f_place⟩,SchemaNews_f_unf⟩,SchemaNews_f_rec⟩,SchemaNews_f_named⟩,(by kernel_rfl)⟩,(by kernel_rfl)⟩,(by kernel_rfl)⟩,SchemaNews_f_loops⟩,(by kernel_rfl)⟩,SchemaNews_f_read⟩,(by kernel_rfl)⟩,(by kernel_rfl)⟩,(by kernel_rfl)⟩,ZoP⟩,(by kernel_rfl)⟩,ZoQ⟩,ZoR⟩,ZoS⟩,(by kernel_rfl)⟩,(by kernel_rfl)⟩,SchemaNews_f_pin⟩,(by kernel_rfl)⟩,(by kernel_rfl)⟩
theorem SchemaNews_row:Rows.SchemaNewsSaid :=
 OpenClaim.holds_of_wide 8 Tryz.f8 rfl rfl rfl rfl rfl rfl rfl ⟨rfl,rfl,rfl,rfl,rfl⟩ rfl rfl rfl rfl rfl (by kernel_rfl) Tryz.func8 SchemaNews_closed
  (of_decide_eq_true (by kernel_rfl)) (by unfold Func.isWrapper; first|(rw [if_pos (by decide +kernel)]; kernel_rfl)|(rw [if_neg (by decide +kernel)]; exact ⟨rfl,rfl⟩))
  (fun os started H enc _=>SchemaNews_lifted os started H enc)
theorem SchemaNews_holds:Rows.SchemaNewsCardSaid :=
 Claim7.holds_tied_plain_at .later [] [.data, .data, .data, .data, .sentinel, .sentinel, .pinned] true (true, "64651976b4b1362d9987b28889d977338d9d605105d9f177b3ee9c2b7dd28d8a") true
  SchemaNews_row (fun _ h=>by cases h) SchemaNews_f_text (fun _ h=>by cases h) schemaNews_row_tie rfl ⟨rfl,rfl⟩ (by kernel_rfl) rfl
  (fun f fn hf hfn=>by
   obtain rfl : f = 8 := Option.some.inj ((show Tryz.prog.funcNamed "palaver/palaverlaw11.SchemaNews" = some 8 by kernel_rfl).symm.trans hf) |>.symm
   obtain rfl:fn=Tryz.f8:=(Option.some.inj (Tryz.func8.symm.trans hfn)).symm
   exact ⟨by kernel_rfl,fun j t ht=>by
    rw [Tryz.params8] at ht
    have hm:t∈[25]:=by simpa using Array.mem_of_getElem? ht
    have hall:([25].all fun u=>!Tryz.prog.wantsStandIn u)=true:=by kernel_rfl
    exact (show Tryz.prog.wantsStandIn t=false by simpa using List.all_eq_true.1 hall t hm)⟩)
  SchemaNews_f_goes
#print axioms SchemaNews_holds
end Go.Proofs.YtpfhhikbaeknpaaGreatDoor
