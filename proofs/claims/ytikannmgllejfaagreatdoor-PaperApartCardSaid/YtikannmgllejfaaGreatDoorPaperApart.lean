/- The law PaperApart returns true (tied card). -/
import Derived.Test.YtikannmgllejfaaGreatDoorKYN
import Derived.Test.YtikannmgllejfaaGreatDoorKNO
import Derived.Test.YtikannmgllejfaaGreatDoorKR4
import Derived.Test.YtikannmgllejfaaGreatDoorTie
import Derived.Test.YtikannmgllejfaaGreatDoorCards
import Derived.ChangeMaps5
import Derived.ProofKit
import Derived.OpenShut
import Derived.LaidMore
import Derived.Lay
import Derived.SevenTiedAt
import Derived.Stop.Joined
set_option maxRecDepth 1000000
set_option linter.all false
namespace Go.Proofs.YtikannmgllejfaaGreatDoor
open Go.RowKit Pal Go.ChangeShapes Go.WideShapes Go.ChangeAt
open Go
theorem val_open {H:Type} {enc:TypeId × Value → H} {W:World} {r:Go.Reach} {b0:Nat} {v:Value} {d:DataW H} {ps:List MemPlace} (hval:Value.okWide Tryz.prog W r b0 48 v) (h:DataW.Trod enc Tryz.prog W 0 (fun _=>true) true 48 v d ps) :
  ∃ x:Val,v = valV x ∧ I64 x.k ∧ I64 x.n ∧ x.s.length ≤ 9223372036854775807:=by
 obtain ⟨cs,rfl,_⟩:=okWide_struct Tryz.underlying48 hval
 obtain ⟨fuel,hf⟩:=h
 obtain ⟨x,hx,hr⟩:=Zm6 hf
 refine ⟨x,?_,hr⟩
 unfold valV
 simp [Value.cells] at hx
 congr 1
 exact Array.ext' (by simpa using hx)
theorem PaperApart_lay {W:World} (h:laidMetH Tryz.prog Rows.paperApartRow.laid W):Lay2 W:=by
 rw [MakeChecks.laidMetH_plain _ _ _ (by kernel_rfl)] at h
 exact Zl6 (Go.Lib.laidMet.reads h (by simp [Rows.paperApartRow])) (Go.Lib.laidMet.reads h (by simp [Rows.paperApartRow])) (Go.Lib.laidMet.reads h (by simp [Rows.paperApartRow])) (Go.Lib.laidMet.reads h (by simp [Rows.paperApartRow]))
theorem PaperApart_lifted (os:Os) (started:os.Started) (H:Type) (enc:TypeId × Value→H) :
 ReturnsInHanded {} Tryz.checked os 5 .any (fun w args=>(Rows.paperApartSpec.pre enc Tryz.prog Tryz.f5 Rows.paperApartRow.domain false w args∧laidMetH Tryz.prog Rows.paperApartRow.laid w)∧sizedMet enc Tryz.prog Tryz.f5 (OpenSpec.ofChange Rows.paperApartSpec) false w args)
  (Rows.paperApartSpec.post enc Tryz.prog Tryz.f5 false true false false):=by
 refine returnsInHanded_of_change_and (C:=Tryz.checked) (X:=fun w _=>laidMetH Tryz.prog Rows.paperApartRow.laid w) (fun _ _ _ hh h=>h.of_heap hh) Tryz.own started (by kernel_rfl) Tryz.func5
  (ChangeSpec.witness_shaped (enc:=enc) (C:=Tryz.checked) (os:=os) (X:=fun w _=>laidMetH Tryz.prog Rows.paperApartRow.laid w) false (World.laidAll Tryz.prog os Rows.paperApartRow.laid) #[.slice none 0 0,.int .i64 0,.slice none 0 0,.int .i64 0,.agg #[.int .i64 0,.int .i64 0,.string ByteArray.empty]] 8 (World.laidAll_os _ _ _)
   (World.shaped_of_ZipB (by kernel_rfl) (by kernel_rfl)) (by kernel_rfl) (by kernel_rfl) (by kernel_rfl)
   (by rw [MakeChecks.laidMetH_plain _ _ _ (by kernel_rfl)]; exact laidMet_laidAll _ (by kernel_rfl) (by kernel_rfl))) ?_
 intro W base args ds gs before hval0 hW hcnd hreach hL _
 have hval:∀ (j:Nat) t v,Tryz.f5.params[j]?=some t→args[j]?=some v→Value.okWide Tryz.prog W .any base t v:=hval0
 have hW':=hW
 obtain ⟨p,q,hA0,hV,rfl,hfz,hnd⟩:=hW
 have hA:DataW.TrodAll enc Tryz.prog W 0 (fun _=>true) true Tryz.f5.params.toList args.toList ds p:=hA0
 rw [Tryz.params5] at hA hval
 obtain ⟨v0,vs0,d0,ds0,p0,q0,hargs,rfl,rfl,h0,r0⟩:=trodAll_cons hA
 obtain ⟨v1,vs1,d1,ds1,p1,q1,rfl,rfl,rfl,h1,r1⟩:=trodAll_cons r0
 obtain ⟨v2,vs2,d2,ds2,p2,q2,rfl,rfl,rfl,h2,r2⟩:=trodAll_cons r1
 obtain ⟨v3,vs3,d3,ds3,p3,q3,rfl,rfl,rfl,h3,r3⟩:=trodAll_cons r2
 obtain ⟨v4,vs4,d4,ds4,p4,q4,rfl,rfl,rfl,h4,r4⟩:=trodAll_cons r3
 obtain ⟨rfl,rfl,rfl⟩:=trodAll_nil r4
 obtain rfl:args=#[v0,v1,v2,v3,v4]:=by cases args; simp_all
 obtain ⟨rfl,rfl⟩:=trodVars_none hV
 have k0:=h0
 have lt0:∀ x∈p0,x.block<W.heap.size:=by obtain ⟨m,hm⟩:=k0; exact DataW.trod_lt m _ _ _ hm
 obtain ⟨a0,x0,o0⟩:=Zq0 (hval 0 22 v0 rfl rfl) h0
 obtain ⟨a1,rfl,rfl,rfl,w1⟩:=open_int Tryz.underlying3 (hval 1 3 v1 rfl rfl) h1
 have k2:=h2
 have lt2:∀ x∈p2,x.block<W.heap.size:=by obtain ⟨m,hm⟩:=k2; exact DataW.trod_lt m _ _ _ hm
 obtain ⟨a2,x2,o2⟩:=Zm9 (hval 2 23 v2 rfl rfl) h2
 obtain ⟨a3,rfl,rfl,rfl,w3⟩:=open_int Tryz.underlying3 (hval 3 3 v3 rfl rfl) h3
 have k4:=h4
 have lt4:∀ x∈p4,x.block<W.heap.size:=by obtain ⟨m,hm⟩:=k4; exact DataW.trod_lt m _ _ _ hm
 obtain ⟨a4,rfl,o4⟩:=val_open (hval 4 48 v4 rfl rfl) h4
 have hlay:=PaperApart_lay hL
 clear hA0 hval0 hL
 refine (apart_walk a0 _ a1 a2 _ a3 a4 W hlay x0 o0 (wf_i64 w1) x2 o2 (Znd k2) (wf_i64 w3) o4).mono fun e W' ⟨he,bel⟩=>?_
 subst he
 exact ⟨_,rfl,_,_,_,[],_,[],hW',trodAll_mk1 (shut_bool Tryz.underlying4 _),(trodAll_cons_mk (Below.trod (by kernel_rfl) (by kernel_rfl) (of_decide_eq_true (by kernel_rfl)) k0 bel lt0) (trodAll_cons_mk (shut_int Tryz.underlying3 w1) (trodAll_cons_mk (Below.trod (by kernel_rfl) (by kernel_rfl) (of_decide_eq_true (by kernel_rfl)) k2 bel lt2) (trodAll_cons_mk (shut_int Tryz.underlying3 w3) (trodAll_cons_mk (Below.trod (by kernel_rfl) (by kernel_rfl) (of_decide_eq_true (by kernel_rfl)) k4 bel lt4) trodAll_mk0))))),rfl,bel.frame _,fun h=>by cases h⟩
theorem PaperApart_f_wf:Rows.paperApartRow.wf (OpenSpec.ofChange Rows.paperApartSpec)=true:=by kernel_rfl
theorem PaperApart_f_tie:namedTie Tryz.prog Rows.paperApartRow.named Rows.paperApartSpec.vars=true:=by kernel_rfl
theorem PaperApart_f_place:(Rows.paperApartRow.inPlace == Tryz.prog.inPlace 5)=true:=by kernel_rfl
theorem PaperApart_f_unf:(Rows.paperApartRow.unfollowed == Tryz.prog.unfollowed 5)=true:=by kernel_rfl
theorem PaperApart_f_rec:(Rows.paperApartRow.recurses == Tryz.prog.recurses 5)=true:=by kernel_rfl
theorem PaperApart_f_named:(Rows.paperApartRow.named == Tryz.prog.varsNamed 5)=true:=by kernel_rfl
theorem PaperApart_f_loops:(Rows.paperApartRow.loops == (Tryz.f5.params.toList++Rows.paperApartSpec.plain.varTypes Tryz.prog).any (Tryz.prog.loopsFrom ·))=true:=by kernel_rfl
theorem PaperApart_f_read:Rows.paperApartSpec.vars.all (Tryz.prog.varReadable ·)=true:=by kernel_rfl
theorem PaperApart_f_pin:(Rows.paperApartRow.pinned == Rows.paperApartRow.pinnedBy)=true:=by kernel_rfl
theorem PaperApart_f_text:Rows.paperApartRow.wfByText (OpenSpec.ofChange Rows.paperApartSpec)=true:=by kernel_rfl
theorem PaperApart_f_goes:false=Rows.paperApartRow.goesBy Tryz.prog:=by kernel_rfl
theorem PaperApart_closed:joinedFacts Tryz.prog 5 Tryz.f5 Rows.paperApartSpec Rows.paperApartRow=true:=by
 unfold joinedFacts
 simp only [Bool.and_eq_true]
 exact ⟨⟨⟨⟨⟨⟨⟨⟨⟨⟨⟨⟨⟨⟨⟨⟨⟨⟨⟨⟨⟨⟨⟨⟨⟨⟨⟨⟨⟨⟨⟨PaperApart_f_wf,Zq1⟩,Zq2⟩,(by kernel_rfl)⟩,PaperApart_f_tie⟩,(by kernel_rfl)⟩,(by kernel_rfl)⟩,(by kernel_rfl)⟩,(by kernel_rfl)⟩,PaperApart_f_place⟩,PaperApart_f_unf⟩,PaperApart_f_rec⟩,PaperApart_f_named⟩,(by kernel_rfl)⟩,(by kernel_rfl)⟩,(by kernel_rfl)⟩,PaperApart_f_loops⟩,(by kernel_rfl)⟩,PaperApart_f_read⟩,(by kernel_rfl)⟩,(by kernel_rfl)⟩,(by kernel_rfl)⟩,Zq3⟩,(by kernel_rfl)⟩,Zq4⟩,Zq5⟩,Zq6⟩,(by kernel_rfl)⟩,(by kernel_rfl)⟩,PaperApart_f_pin⟩,(by kernel_rfl)⟩,(by kernel_rfl)⟩
theorem PaperApart_row:Rows.PaperApartSaid :=
 OpenClaim.holds_of_wide 5 Tryz.f5 rfl rfl rfl rfl rfl rfl rfl ⟨rfl,rfl,rfl,rfl,rfl⟩ rfl rfl rfl rfl rfl (by kernel_rfl) Tryz.func5 PaperApart_closed
  (of_decide_eq_true (by kernel_rfl)) (by unfold Func.isWrapper; first|(rw [if_pos (by decide +kernel)]; kernel_rfl)|(rw [if_neg (by decide +kernel)]; exact ⟨rfl,rfl⟩))
  (fun os started H enc _=>PaperApart_lifted os started H enc)
theorem PaperApart_holds:Rows.PaperApartCardSaid :=
 Claim7.holds_tied_plain_at .later [] [.data, .data, .data, .data, .sentinel, .sentinel, .pinned] true (true, "68d465196905732aa604b99fce1e103512a92f866817974889a1ab34cb4258a9") true
  PaperApart_row (fun _ h=>by cases h) PaperApart_f_text (fun _ h=>by cases h) paperApart_row_tie rfl ⟨rfl,rfl⟩ (by kernel_rfl) rfl
  (fun f fn hf hfn=>by
   obtain rfl : f = 5 := Option.some.inj ((show Tryz.prog.funcNamed "palaver/palaverlaw12.PaperApart" = some 5 by kernel_rfl).symm.trans hf) |>.symm
   obtain rfl:fn=Tryz.f5:=(Option.some.inj (Tryz.func5.symm.trans hfn)).symm
   exact ⟨by kernel_rfl,fun j t ht=>by
    rw [Tryz.params5] at ht
    have hm:t∈[22,3,23,3,48]:=by simpa using Array.mem_of_getElem? ht
    have hall:([22,3,23,3,48].all fun u=>!Tryz.prog.wantsStandIn u)=true:=by kernel_rfl
    exact (show Tryz.prog.wantsStandIn t=false by simpa using List.all_eq_true.1 hall t hm)⟩)
  PaperApart_f_goes
#print axioms PaperApart_holds
end Go.Proofs.YtikannmgllejfaaGreatDoor
