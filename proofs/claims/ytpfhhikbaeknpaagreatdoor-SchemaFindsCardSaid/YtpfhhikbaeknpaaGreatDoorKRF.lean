/- The document's lexer in memory; the walks of its class, here. Condition: the text is no longer than any may be. -/
import Derived.Test.YtpfhhikbaeknpaaGreatDoorKRB
import Derived.Test.YtpfhhikbaeknpaaGreatDoorKLt
import Derived.Test.YtpfhhikbaeknpaaGreatDoorKVb
import Derived.RegionTactic
import Derived.ChangeAlike
import Derived.Deep.QuietTactic
import Derived.BigQuiet
set_option linter.unusedSectionVars false
set_option linter.unusedSimpArgs false
set_option linter.unusedVariables false
namespace Go.Proofs.YtpfhhikbaeknpaaGreatDoor
open Go.RowKit Pal
def pcells (l:Bs) (p:Nat):List Value:=[.int .i64 p,.int .i64 (wd (l.drop p)),.int .i32 (rn (l.drop p)),.bool (badB (l.drop p))]
theorem pcells_len (l:Bs) (p:Nat):(pcells l p).length=4:=rfl
def PsV (h:GH) (v:Value) (l:Bs):Prop:=∃ ps:List Nat,SlV h v ps.length 4 (fun j=>pcells l (ps.getD j 0))∧ps.length=cnt l∧∀ k p,AtP l k p→p<l.length→ps[k]?=some p
theorem PsV.mono {h h':GH} {v:Value} {l:Bs} (s:PsV h v l) (k:h.le h'):PsV h' v l:=by
 obtain ⟨ps,hs,hn,hp⟩:=s
 exact ⟨ps,hs.mono k,hn,hp⟩
theorem infoP:(Tryz.prog.info? 112).map (fun i=>(i.zero,i.size,i.bytes))=some (some (.agg #[.int .i64 0,.int .i64 0,.int .i32 0,.bool false]),4,24):=by kernel_rfl
theorem pieceV_at (s:ByteArray) (i:Nat):pieceV i (dLen s i) (dRune s i) (badP s i) = .agg #[.int .i64 i,.int .i64 (wd (s.data.toList.drop i)),.int .i32 (rn (s.data.toList.drop i)),.bool (badB (s.data.toList.drop i))]:=by
 unfold pieceV badP badB
 rw [dLen_at,dRune_at]
def piecesPost (s:ByteArray) (w:World) (e:Ending) (w':World):Prop:=Below w.heap.size w w'∧∃ v,e = .returned v∧PsV (gh w') v s.data.toList
set_option maxRecDepth 1000000 in
set_option maxHeartbeats 4000000 in
theorem pieces_any (s:ByteArray) (w:World) (hs:s.size≤1000000):Calls Tryz.prog 61 #[.string s] w (piecesPost s w):=by
 obtain ⟨i0,hi,hz0,hz1,hz2⟩:=info_parts infoP
 go_enter Tryz.func61,Tryz.ntmps61
 go_wp2
 go_loopg [3,4] s.size (fun g l i wr=>∃ (tau:Tag) (k p:Nat) (ps:List Nat),i = .int .i64 p∧Row tau 1 wr 112 4 l ps.length (ps.flatMap (pcells s.data.toList))∧Evo T0 w tau wr (·≠0) ∧
  AtP s.data.toList k p∧ps.length=k∧Hid (∀ j q,AtP s.data.toList j q→j<k→ps[j]?=some q)∧s.size≤p+g∧p≤s.size)
 case atStart=>exact ⟨T0,0,0,[],rfl,Row.nil _ _ _ _ _,Evo.refl _ _ _,.zero,rfl,Lib.hid (fun j q _ h=>by omega),by omega,by omega⟩
 case round =>
  obtain ⟨tau,k,p,ps,rfl,hrow,hev,hat,rfl,HP,hg,hp⟩:=hrel
  by_cases hlt:p<s.size
  · obtain ⟨g,rfl⟩:∃ g,gk=g+1:=⟨gk - 1,by omega⟩
    obtain ⟨la,lc,rfl⟩:=hrow.form
    have hone:=one_any s p hlt (by omega) wr
    unfold onePost at hone
    rw [pieceV_at] at hone
    have hne:s.data.toList.drop p≠[]:=drop_ne (by rw [len_toList]; exact hlt)
    have hst:=hat.step (by rw [len_toList]; exact hlt)
    have hwl:=wd_le hne
    have hwp:=wd_pos (s.data.toList.drop p)
    rw [List.length_drop,len_toList] at hwl
    have hpc:pcells s.data.toList p=[.int .i64 p,.int .i64 (wd (s.data.toList.drop p)),.int .i32 (rn (s.data.toList.drop p)),.bool (badB (s.data.toList.drop p))]:=rfl
    generalize wd (s.data.toList.drop p)=z at *
    generalize rn (s.data.toList.drop p)=r at *
    generalize badB (s.data.toList.drop p)=bd at *
    have HPC:=Lib.hid hpc
    have HO:=Lib.hid hone
    have HST:=Lib.hid hst
    have HAT:=Lib.hid hat
    clear hone hne hpc hst hat
    go_wp2_with fail
    refine HO.out.mono ?_
    rintro e W1 ⟨rfl,hb1⟩
    have hrow1:=hrow.call hb1
    have hev1:=hev.call hb1
    have hrow2:=hrow1.keep (K:=fun _=>False) ((Evo.refl tau W1 _).alloc 3 (.cells #[.int .i64 p,.int .i64 z,.int .i32 r,.bool bd] 112 (0,0))) (fun h=>h)
    have hev2:=hev1.alloc 3 (.cells #[.int .i64 p,.int .i64 z,.int .i32 r,.bool bd] 112 (0,0))
    have hvar2:(W1.alloc (.cells #[.int .i64 p,.int .i64 z,.int .i32 r,.bool bd] 112 (0,0))).heap[W1.heap.size]?=some (.cells #[.int .i64 p,.int .i64 z,.int .i32 r,.bool bd] 112 (0,0)):=heap_alloc_new W1 _
    have htg2:(tau.set W1.heap.size 3) W1.heap.size=3:=Tag.set_same _ _ _
    have hsz2:W1.heap.size<(W1.alloc (.cells #[.int .i64 p,.int .i64 z,.int .i32 r,.bool bd] 112 (0,0))).heap.size:=by simp
    clear hrow hev hb1 HO hrow1 hev1
    go_wp2_with (at_builtin; refine wpList_append_one rfl _ _ 105 rfl 112 i0 _ 4 24 Tryz.underlying105 hi hz0 hz1 hz2 rfl (by decide) rfl hrow2 #[.int .i64 p,.int .i64 z,.int .i32 r,.bool bd] 112 (0,0) _ rfl ?c0 rfl ?c1 ?c2 ?c3 ?_)
    case c0=>simp
    case c1=>first|exact ⟨rfl,rfl,rfl,rfl⟩|(intro u hu; simp at hu; rcases hu with rfl|rfl|rfl|rfl<;>rfl)
    case c2=>unfold maxLen; have:=HAT.out.le; omega
    case c3=>have:=HAT.out.le; omega
    intro v' t' w' hr3 he
    have hev6:=hev2.trans (he.mono (K':=(·≠0)) (by intro x hx; omega))
    have hvar6:w'.heap[W1.heap.size]?=some (.cells #[.int .i64 p,.int .i64 z,.int .i32 r,.bool bd] 112 (0,0)):=by rw [he.block _ hsz2 (by rw [htg2]; omega)]; exact hvar2
    obtain ⟨x0,x1,x2,x3⟩:=four_cells hvar6
    have HR3:=Lib.hid hr3
    have HEV:=Lib.hid hev6
    clear he hr3 hev6 hvar6 hvar2 htg2 hev2 hrow2 hsz2
    go_wp2
    go_roundg g
    case rel =>
     refine ⟨t',ps.length+1,p+z,ps++[p],by go_num,?_,HEV.out,HST.out,by rw [List.length_append]; rfl,Lib.hid ?_,by omega,by omega⟩
     · have h:=HR3.out
       have hf:(ps++[p]).flatMap (pcells s.data.toList)=ps.flatMap (pcells s.data.toList)++[.int .i64 p,.int .i64 z,.int .i32 r,.bool bd]:=by rw [List.flatMap_append,←HPC.out]; simp
       rw [hf,List.length_append]
       exact h
     · intro j q hj hjk
       by_cases hjk2:j<ps.length
       · rw [List.getElem?_append_left (by omega)]
         exact HP.out j q hj hjk2
       · obtain rfl:j=ps.length:=by omega
         rw [List.getElem?_append_right (by omega),Nat.sub_self,hj.uniq HAT.out]
         rfl
    case measure=>omega
  · have hpe:p=s.size:=by omega
    subst hpe
    have hkc:ps.length=cnt s.data.toList:=by
     have h:=hat.le
     rw [List.drop_eq_nil_of_le (by rw [len_toList]; omega),cnt_nil] at h
     omega
    obtain ⟨la,lc,rfl⟩:=hrow.form
    have HV:=Lib.hid (SlV.ofRow (pcells s.data.toList) ps 0 (by decide) (pcells_len _) hrow)
    have HB:=Lib.hid (hev.toBelow (by simp))
    have hkl:ps.length=cnt s.data.toList:=hkc
    have HKL:=Lib.hid hkl
    clear hrow hev hat hkc hkl
    go_wp2
    try rw [Exit.noGoto_ret]
    go_ret
    refine ⟨HB.out,_,rfl,ps,HV.out,HKL.out,fun j q hj hq=>HP.out j q hj ?_⟩
    have:=hj.lt
    rw [len_toList] at *
    have h2:=hj.lt.2 (by rw [len_toList]; exact hq)
    have:=HKL.out
    omega
theorem PsV.form {h:GH} {v:Value} {l:Bs} (t:PsV h v l):∃ a cap,v = .slice a (cnt l) cap:=by
 obtain ⟨ps,⟨a,cap,hv,_⟩,hn,_⟩:=t
 exact ⟨a,cap,by rw [hv,hn]⟩
theorem PsV.at {w:World} {a:Option Addr} {n cap:Nat} {l:Bs} (t:PsV (gh w) (.slice a n cap) l) {k p:Nat} (hat:AtP l k p) (hp:p<l.length) :
 ∃ b off,a=some ⟨b,off,none⟩∧w.cell? ⟨b,off+k*4,none⟩=some (.int .i64 p)∧w.cell? ⟨b,off+k*4+1,none⟩=some (.int .i64 (wd (l.drop p)))∧w.cell? ⟨b,off+k*4+2,none⟩=some (.int .i32 (rn (l.drop p)))∧w.cell? ⟨b,off+k*4+3,none⟩=some (.bool (badB (l.drop p))):=by
 obtain ⟨ps,⟨a',cap',hv,hn,hc,hm,hcell⟩,hpn,hps⟩:=t
 simp only [Value.slice.injEq] at hv
 obtain ⟨rfl,rfl,rfl⟩:=hv
 have hx:=hps k p hat hp
 have hj:=(List.getElem?_eq_some_iff.1 hx).1
 have hd:ps.getD k 0=p:=by rw [List.getD_eq_getElem?_getD,hx]; rfl
 have get:∀ c y,(pcells l p)[c]?=some y→∃ b off,a=some ⟨b,off,none⟩∧(gh w).cell b (off+(4*k+c))=some y:=fun c y h=>hcell k c y hj (by show (pcells l (ps.getD k 0))[c]?=_; rw [hd]; exact h)
 obtain ⟨b,off,ha,h0⟩:=get 0 _ rfl
 obtain ⟨b1,off1,ha1,h1⟩:=get 1 _ rfl
 obtain ⟨b2,off2,ha2,h2⟩:=get 2 _ rfl
 obtain ⟨b3,off3,ha3,h3⟩:=get 3 _ rfl
 rw [ha] at ha1 ha2 ha3
 simp only [Option.some.injEq,Addr.mk.injEq,and_true] at ha1 ha2 ha3
 obtain ⟨rfl,rfl⟩:=ha1
 obtain ⟨rfl,rfl⟩:=ha2
 obtain ⟨rfl,rfl⟩:=ha3
 rw [gh_cell] at h0 h1 h2 h3
 rw [Nat.mul_comm 4 k,←Nat.add_assoc] at h0 h1 h2 h3
 exact ⟨b,off,ha,h0,h1,h2,h3⟩
set_option maxRecDepth 1000000 in
set_option maxHeartbeats 1000000 in
theorem refCount_any (s:ByteArray) (w:World) (hs:s.size≤1000000):Calls Tryz.prog 189 #[.string s] w fun e w'=>e = .returned (.int .i64 (cnt s.data.toList))∧Below w.heap.size w w':=by
 have HP:=Lib.hid (pieces_any s w hs)
 go_enter Tryz.func189,Tryz.ntmps189
 go_wp2_with fail
 refine HP.out.mono ?_
 rintro e W ⟨hb,v,rfl,hv⟩
 obtain ⟨a,cap,rfl⟩:=hv.form
 clear hv
 go_wp2
 go_ret
 exact ⟨rfl,hb⟩
set_option maxRecDepth 1000000 in
set_option maxHeartbeats 2000000 in
theorem refValid_any (s:ByteArray) (w:World) (hs:s.size≤1000000):Calls Tryz.prog 188 #[.string s] w fun e w'=>e = .returned (.bool (val s.data.toList))∧Below w.heap.size w w':=by
 have HP:=Lib.hid (pieces_any s w hs)
 obtain ⟨R,hR⟩:∃ R,val s.data.toList=R:=⟨_,rfl⟩
 rw [hR]
 have HR:=Lib.hid hR
 have HCL:=Lib.hid (cnt_le s.data.toList)
 clear hR
 go_enter Tryz.func188,Tryz.ntmps188
 go_wp2_with fail
 refine HP.out.mono ?_
 rintro e W ⟨hb,v,rfl,hv⟩
 obtain ⟨a,cap,rfl⟩:=hv.form
 have HV:=Lib.hid hv
 have HB:=Lib.hid hb
 obtain ⟨n,hn⟩:∃ n,cnt s.data.toList=n:=⟨_,rfl⟩
 have HN:=Lib.hid hn
 rw [hn] at HV ⊢
 have hn1:n≤1000000:=by have:=HCL.out; rw [len_toList] at this; omega
 clear hv hb hn HP
 go_wp2
 go_loopg [4] n (fun g i wr=>∃ k p:Nat,i = .int .i64 k∧k+g=n∧wr=W∧Hid (AtP s.data.toList k p)∧Hid (val (s.data.toList.drop p)=R))
 case atStart=>exact ⟨0,0,rfl,by omega,rfl,Lib.hid .zero,Lib.hid (by rw [List.drop_zero]; exact HR.out)⟩
 case round =>
  obtain ⟨k,p,rfl,hg,rfl,HA,HC⟩:=hrel
  have hlp:=HA.out.lt
  rw [HN.out] at hlp
  by_cases hlt:k<n
  · have hp:=hlp.1 hlt
    obtain ⟨b,off,rfl,c0,c1,c2,c3⟩:=HV.out.at HA.out hp
    have hne:=drop_ne hp
    have hst:=HA.out.step hp
    have hvc:=HC.out
    rw [val_cons hne] at hvc
    have HST:=Lib.hid hst
    clear hlp hne hst hp c0 c1 c2
    cases hbd:badB (s.data.toList.drop p) with
    | true =>
     have HE:Hid (R=false):=Lib.hid (by rw [←hvc,if_pos (of_decide_eq_true hbd)])
     rw [hbd] at c3
     clear hvc hbd
     go_wp2
     try rw [Exit.noGoto_ret]
     go_ret
     exact ⟨by rw [HE.out]; rfl,HB.out⟩
    | false =>
     have HE:Hid (val (s.data.toList.drop (p+wd (s.data.toList.drop p)))=R):=Lib.hid (by
      rw [←hvc,if_neg (of_decide_eq_false hbd),List.drop_drop])
     rw [hbd] at c3
     clear hvc hbd
     go_wp2
     go_roundg (gk - 1)
     case rel=>exact ⟨k+1,p+wd (s.data.toList.drop p),by go_num,by omega,rfl,HST,HE⟩
     case measure=>omega
  · have HE:Hid (R=true):=Lib.hid (by
     have:¬ p<s.data.toList.length:=fun h=>hlt (hlp.2 h)
     rw [←HC.out,List.drop_eq_nil_of_le (by omega),val_nil])
    clear hlp
    go_wp2
    try rw [Exit.noGoto_ret]
    go_ret
    exact ⟨by rw [HE.out]; rfl,HB.out⟩
structure LSt (W:World) (B:Nat) (s:Bs) (pv:Value) (k p:Nat):Prop where
 cell:W.heap[B]?=some (.cells #[.string ⟨s.toArray⟩,pv,.int .i64 k] 108 (0,0))
 at':AtP s k p
theorem LSt.cells {W:World} {B:Nat} {s:Bs} {pv:Value} {k p:Nat} (h:LSt W B s pv k p) :
 W.cell? ⟨B,0,none⟩=some (.string ⟨s.toArray⟩)∧W.cell? ⟨B,1,none⟩=some pv∧W.cell? ⟨B,2,none⟩=some (.int .i64 k)∧W.frozen? ⟨B,2,none⟩=false∧B<W.heap.size:=by
 have h:=h.cell
 exact ⟨by simp [World.cell?,h],by simp [World.cell?,h],by simp [World.cell?,h],by simp [World.frozen?,h],(Array.getElem?_eq_some_iff.1 h).1⟩
theorem LSt.keep {W W':World} {B:Nat} {s:Bs} {pv:Value} {k p:Nat} (h:LSt W B s pv k p) (hb:Below W.heap.size W W'):LSt W' B s pv k p :=
 ⟨by rw [hb.block _ (Array.getElem?_eq_some_iff.1 h.cell).1]; exact h.cell,h.at'⟩
theorem LSt.set {W:World} {B:Nat} {s:Bs} {pv:Value} {k p:Nat} (h:LSt W B s pv k p) (x:Int) {k' p':Nat} (e:x=k') (ha:AtP s k' p'):LSt (W.setCell ⟨B,2,none⟩ (.int .i64 x)) B s pv k' p':=by
 subst e
 refine ⟨?_,ha⟩
 have:=h.cell
 simp [World.setCell,Array.getElem?_modify,this]
theorem LSt.other {W:World} {B:Nat} {s:Bs} {pv:Value} {k p:Nat} (h:LSt W B s pv k p) {a:Addr} (ha:a.block≠B) (v:Value):LSt (W.setCell a v) B s pv k p :=
 ⟨by rw [Below.heap_setCell _ _ _ _ (fun e=>ha e.symm)]; exact h.cell,h.at'⟩
theorem LSt.alloc {W:World} {B:Nat} {s:Bs} {pv:Value} {k p:Nat} (h:LSt W B s pv k p) (o:Obj):LSt (W.alloc o) B s pv k p:=h.keep ((Below.refl _ _).alloc (Nat.le_refl _) _)
def TkB (W:World) (b:Nat) (kd:Int) (ts:Bs) (n:Int) (p:Nat):Prop:=W.heap[b]?=some (.cells #[.int .i64 kd,.string ⟨ts.toArray⟩,.int .i64 n,.int .i64 p] 86 (0,0))
theorem TkB.keep {W W':World} {b:Nat} {kd:Int} {ts:Bs} {n:Int} {p:Nat} (h:TkB W b kd ts n p) (hb:Below W.heap.size W W'):TkB W' b kd ts n p:=by
 unfold TkB at *
 rw [hb.block _ (Array.getElem?_eq_some_iff.1 h).1]; exact h
theorem TkB.but {W W':World} {B b:Nat} {kd:Int} {ts:Bs} {n:Int} {p:Nat} (h:TkB W b kd ts n p) (hb:But B W W') (hne:b≠B):TkB W' b kd ts n p:=by
 unfold TkB at *
 rw [hb.block _ (Array.getElem?_eq_some_iff.1 h).1 hne]; exact h
theorem TkB.other {W:World} {b:Nat} {kd:Int} {ts:Bs} {n:Int} {p:Nat} (h:TkB W b kd ts n p) {a:Addr} (ha:a.block≠b) (v:Value):TkB (W.setCell a v) b kd ts n p:=by
 unfold TkB at *
 rw [Below.heap_setCell _ _ _ _ (fun e=>ha e.symm)]; exact h
theorem TkB.setN {W:World} {b:Nat} {kd:Int} {ts:Bs} {n:Int} {p:Nat} (h:TkB W b kd ts n p) (m:Int):TkB (W.setCell ⟨b,2,none⟩ (.int .i64 m)) b kd ts m p:=by
 unfold TkB at *
 simp [World.setCell,Array.getElem?_modify,h]
theorem TkB.setS {W:World} {b:Nat} {kd:Int} {ts:Bs} {n:Int} {p:Nat} (h:TkB W b kd ts n p) (us:Bs):TkB (W.setCell ⟨b,1,none⟩ (.string ⟨us.toArray⟩)) b kd us n p:=by
 unfold TkB at *
 simp [World.setCell,Array.getElem?_modify,h]
def clsAt (s:Bs) (p:Nat):Int:=if p<s.length then cls (rn (s.drop p)) else -1
theorem clsAt_in {s:Bs} {p:Nat} (h:p<s.length):clsAt s p=cls (rn (s.drop p)):=if_pos h
theorem clsAt_out {s:Bs} {p:Nat} (h:¬ p<s.length):clsAt s p = -1:=if_neg h
theorem clsAt_nn {s:Bs} {p:Nat} {c:Int} (h:clsAt s p=c) (hc:0≤c):p<s.length∧cls (rn (s.drop p))=c:=by
 unfold clsAt at h
 split at h
 · exact ⟨by assumption,h⟩
 · omega
set_option maxRecDepth 1000000 in
set_option maxHeartbeats 1000000 in
theorem lclass_any (s:Bs) (B k p:Nat) (pv:Value) (w:World) (hs:s.length≤1000000) (h:LSt w B s pv k p) (hP:PsV (gb B w) pv s) :
 Calls Tryz.prog 62 #[.pointer (some ⟨B,0,none⟩)] w fun e w'=>e = .returned (.int .i64 (clsAt s p))∧Below w.heap.size w w':=by
 obtain ⟨c0,c1,c2,-,-⟩:=h.cells
 obtain ⟨a,cap,rfl⟩:=hP.form
 have hlt':=h.at'.lt
 have hcl:=cnt_le s
 have hPg:PsV (gh w) (.slice a (cnt s) cap) s:=hP.mono (gb_gh B w)
 by_cases hp:p<s.length
 · have hk:k<cnt s:=hlt'.2 hp
   obtain ⟨b,off,rfl,d0,d1,d2,d3⟩:=hPg.at h.at' hp
   have HE:=Lib.hid (clsAt_in hp)
   have hbc:=badB_cls (l:=s.drop p)
   have hrr:=rn_range (s.drop p)
   generalize rn (s.drop p)=r at *
   generalize cnt s=n at *
   have hkn:k≤1000000:=by omega
   have HCL:=Lib.hid (fun w=>class01_any r w (by omega))
   clear h hP hlt' hPg hp d0 d1 c0
   cases hbd:badB (s.drop p) with
   | true =>
    have HZ:Hid (clsAt s p=0):=Lib.hid (by rw [HE.out]; exact hbc hbd)
    rw [hbd] at d3
    clear hbc hbd HE
    go_enter Tryz.func62,Tryz.ntmps62
    go_wp2
    go_region
    go_wp2
    go_region
    go_wp2
    go_ret
    exact ⟨by rw [HZ.out]; rfl,(Below.refl _ _).drew.drew⟩
   | false =>
    rw [hbd] at d3
    clear hbc hbd
    go_enter Tryz.func62,Tryz.ntmps62
    go_wp2
    go_region
    go_wp2
    go_region
    go_wp2
    go_quiet ((go_at_call 87; exact (HCL.out _).mono fun _ _ ⟨he,hw⟩=>⟨he,_,hw⟩))
    go_wp2
    go_ret
    exact ⟨by rw [HE.out]; rfl,below_drewN ((Below.refl _ _).drew.drew) _⟩
 · have hk:¬ k<cnt s:=fun x=>hp (hlt'.1 x)
   have HZ:=Lib.hid (clsAt_out hp)
   generalize cnt s=n at *
   clear h hP hlt' hPg hp c0
   go_enter Tryz.func62,Tryz.ntmps62
   go_wp2
   go_region
   go_wp2
   go_ret
   exact ⟨by rw [HZ.out]; rfl,(Below.refl _ _).drew⟩
set_option maxRecDepth 1000000 in
set_option maxHeartbeats 1000000 in
theorem lhere_any (s:Bs) (B k p:Nat) (pv:Value) (w:World) (hs:s.length≤1000000) (h:LSt w B s pv k p) (hP:PsV (gb B w) pv s) :
 Calls Tryz.prog 88 #[.pointer (some ⟨B,0,none⟩)] w fun e w'=>e = .returned (.int .i64 p)∧Below w.heap.size w w':=by
 obtain ⟨c0,c1,c2,-,-⟩:=h.cells
 obtain ⟨a,cap,rfl⟩:=hP.form
 have hlt':=h.at'.lt
 have hcl:=cnt_le s
 have hle:=h.at'.le
 have hPg:PsV (gh w) (.slice a (cnt s) cap) s:=hP.mono (gb_gh B w)
 by_cases hp:p<s.length
 · have hk:k<cnt s:=hlt'.2 hp
   obtain ⟨b,off,rfl,d0,d1,d2,d3⟩:=hPg.at h.at' hp
   generalize cnt s=n at *
   have hkn:k≤1000000:=by omega
   clear h hP hlt' hPg hp d1 d2 d3 hle
   go_enter Tryz.func88,Tryz.ntmps88
   go_wp2
   go_region
   go_wp2
   go_region
   go_wp2
   go_ret
   exact ⟨rfl,(Below.refl _ _).drew.drew⟩
 · have hk:¬ k<cnt s:=fun x=>hp (hlt'.1 x)
   have HE:Hid (s.length=p):=Lib.hid (by omega)
   generalize cnt s=n at *
   clear h hP hlt' hPg hp hle
   go_enter Tryz.func88,Tryz.ntmps88
   go_wp2
   go_region
   go_wp2
   go_ret
   refine ⟨?_,(Below.refl _ _).drew⟩
   have:=HE.out
   simp [ByteArray.size,this]
end Go.Proofs.YtpfhhikbaeknpaaGreatDoor
