/- The walks of the document's num, name. -/
import Derived.Test.YtpfhhikbaeknpaaGreatDoorKRB
import Derived.Test.YtpfhhikbaeknpaaGreatDoorKLt
import Derived.Test.YtpfhhikbaeknpaaGreatDoorKVb
import Derived.RegionTactic
import Derived.ChangeAlike
import Derived.Deep.QuietTactic
import Derived.BigQuiet
import Derived.Test.YtpfhhikbaeknpaaGreatDoorKVc
import Derived.Deep.RegionHeld3
set_option maxHeartbeats 4000000
set_option maxRecDepth 1000000
set_option linter.all false
namespace Go.Proofs.YtpfhhikbaeknpaaGreatDoor
open Go.RowKit Pal
def pcells (l:Bs) (p:Nat):List Value:=[.int .i64 p,.int .i64 (wd (l.drop p)),.int .i32 (rn (l.drop p)),.bool (badB (l.drop p))]
theorem ZkT (l:Bs) (p:Nat):(pcells l p).length=4:=rfl
def PsV (h:GH) (v:Value) (l:Bs):Prop:=∃ ps:List Nat,SlV h v ps.length 4 (fun j=>pcells l (ps.getD j 0))∧ps.length=cnt l∧∀ k p,AtP l k p→p<l.length→ps[k]?=some p
theorem PsV.mono {h h':GH} {v:Value} {l:Bs} (s:PsV h v l) (k:h.le h'):PsV h' v l:=by
 obtain ⟨ps,hs,hn,hp⟩:=s
 exact ⟨ps,hs.mono k,hn,hp⟩
theorem ZkU:(Tryz.prog.info? 112).map (fun i=>(i.zero,i.size,i.bytes))=some (some (.agg #[.int .i64 0,.int .i64 0,.int .i32 0,.bool false]),4,24):=by kernel_rfl
theorem ZkV (s:ByteArray) (i:Nat):pieceV i (dLen s i) (dRune s i) (badP s i) = .agg #[.int .i64 i,.int .i64 (wd (s.data.toList.drop i)),.int .i32 (rn (s.data.toList.drop i)),.bool (badB (s.data.toList.drop i))]:=by
 unfold pieceV badP badB
 rw [ZaM,ZaL]
def piecesPost (s:ByteArray) (w:World) (e:Ending) (w':World):Prop:=Below w.heap.size w w'∧∃ v,e = .returned v∧PsV (gh w') v s.data.toList
theorem ZkW (s:ByteArray) (w:World) (hs:s.size≤1000000):Calls Tryz.prog 61 #[.string s] w (piecesPost s w):=by
 obtain ⟨i0,hi,hz0,hz1,hz2⟩:=info_parts ZkU
 go_in
 go_wp2
 go_loopg [3,4] s.size (fun g l i wr=>∃ (tau:Tag) (k p:Nat) (ps:List Nat),i = .int .i64 p∧Row tau 1 wr 112 4 l ps.length (ps.flatMap (pcells s.data.toList))∧Evo T0 w tau wr (·≠0) ∧
  AtP s.data.toList k p∧ps.length=k∧Hid (∀ j q,AtP s.data.toList j q→j<k→ps[j]?=some q)∧s.size≤p+g∧p≤s.size)
 case atStart=>exact ⟨T0,0,0,[],rfl,Row.nil _ _ _ _ _,Evo.refl _ _ _,.zero,rfl,Zq (fun j q _ h=>by omega),by omega,by omega⟩
 case round =>
  obtain ⟨tau,k,p,ps,rfl,hrow,hev,hat,rfl,HP,hg,hp⟩:=hrel
  by_cases hlt:p<s.size
  · obtain ⟨g,rfl⟩:∃ g,gk=g+1:=⟨gk - 1,by omega⟩
    obtain ⟨la,lc,rfl⟩:=hrow.form
    have hone:=ZkS s p hlt (by omega) wr
    unfold onePost at hone
    rw [ZkV] at hone
    have hne:s.data.toList.drop p≠[]:=ZjC (by rw [Zcg]; exact hlt)
    have hst:=hat.step (by rw [Zcg]; exact hlt)
    have hwl:=ZaS hne
    have hwp:=ZaQ (s.data.toList.drop p)
    rw [List.length_drop,Zcg] at hwl
    have hpc:pcells s.data.toList p=[.int .i64 p,.int .i64 (wd (s.data.toList.drop p)),.int .i32 (rn (s.data.toList.drop p)),.bool (badB (s.data.toList.drop p))]:=rfl
    generalize wd (s.data.toList.drop p)=z at *
    generalize rn (s.data.toList.drop p)=r at *
    generalize badB (s.data.toList.drop p)=bd at *
    have HPC:=Zq hpc
    have HO:=Zq hone
    have HST:=Zq hst
    have HAT:=Zq hat
    clear hone hne hpc hst hat
    go_wp2_with fail
    refine HO.out.mono ?_
    rintro e W1 ⟨rfl,hb1⟩
    have hrow1:=hrow.call hb1
    have hev1:=hev.call hb1
    have hrow2:=hrow1.keep (K:=fun _=>False) ((Evo.refl tau W1 _).alloc 3 (.cells #[.int .i64 p,.int .i64 z,.int .i32 r,.bool bd] 112 (0,0))) (fun h=>h)
    have hev2:=hev1.alloc 3 (.cells #[.int .i64 p,.int .i64 z,.int .i32 r,.bool bd] 112 (0,0))
    have hvar2:(W1.alloc (.cells #[.int .i64 p,.int .i64 z,.int .i32 r,.bool bd] 112 (0,0))).heap[W1.heap.size]?=some (.cells #[.int .i64 p,.int .i64 z,.int .i32 r,.bool bd] 112 (0,0)):=heap_alloc_new W1 _
    have htg2:(tau.set W1.heap.size 3) W1.heap.size=3:=Tag.set_same _ _ _
    have hsz2:W1.heap.size<(W1.alloc (.cells #[.int .i64 p,.int .i64 z,.int .i32 r,.bool bd] 112 (0,0))).heap.size:=by simp
    clear hrow hev hb1 HO hrow1 hev1
    go_wp2_with (at_builtin; refine Zac rfl _ _ 105 rfl 112 i0 _ 4 24 Tryz.underlying105 hi hz0 hz1 hz2 rfl (by decide) rfl hrow2 #[.int .i64 p,.int .i64 z,.int .i32 r,.bool bd] 112 (0,0) _ rfl ?c0 rfl ?c1 ?c2 ?c3 ?_)
    case c0=>simp
    case c1=>first|exact ⟨rfl,rfl,rfl,rfl⟩|(intro u hu; simp at hu; rcases hu with rfl|rfl|rfl|rfl<;>rfl)
    case c2=>unfold maxLen; have:=HAT.out.le; omega
    case c3=>have:=HAT.out.le; omega
    intro v' t' w' hr3 he
    have hev6:=hev2.trans (he.mono (K':=(·≠0)) (by intro x hx; omega))
    have hvar6:w'.heap[W1.heap.size]?=some (.cells #[.int .i64 p,.int .i64 z,.int .i32 r,.bool bd] 112 (0,0)):=by rw [he.block _ hsz2 (by rw [htg2]; omega)]; exact hvar2
    obtain ⟨x0,x1,x2,x3⟩:=Zc7 hvar6
    have HR3:=Zq hr3
    have HEV:=Zq hev6
    clear he hr3 hev6 hvar6 hvar2 htg2 hev2 hrow2 hsz2
    go_wp2
    go_roundg g
    case rel =>
     refine ⟨t',ps.length+1,p+z,ps++[p],by go_num,?_,HEV.out,HST.out,by rw [List.length_append]; rfl,Zq ?_,by omega,by omega⟩
     · have h:=HR3.out
       have hf:(ps++[p]).flatMap (pcells s.data.toList)=ps.flatMap (pcells s.data.toList)++[.int .i64 p,.int .i64 z,.int .i32 r,.bool bd]:=by rw [List.flatMap_append,←HPC.out]; simp
       rw [hf,List.length_append]
       exact h
     · intro j q hj hjk
       by_cases hjk2:j<ps.length
       · rw [List.getElem?_append_left (by omega)]
         exact HP.out j q hj hjk2
       · obtain rfl:j=ps.length:=by omega
         rw [List.getElem?_append_right (by omega),Nat.sub_self,hj.uniq HAT.out]
         rfl
    case measure=>omega
  · have hpe:p=s.size:=by omega
    subst hpe
    have hkc:ps.length=cnt s.data.toList:=by
     have h:=hat.le
     rw [List.drop_eq_nil_of_le (by rw [Zcg]; omega),Zbu] at h
     omega
    obtain ⟨la,lc,rfl⟩:=hrow.form
    have HV:=Zq (SlV.ofRow (pcells s.data.toList) ps 0 (by decide) (ZkT _) hrow)
    have HB:=Zq (hev.toBelow (by simp))
    have hkl:ps.length=cnt s.data.toList:=hkc
    have HKL:=Zq hkl
    clear hrow hev hat hkc hkl
    go_wp2
    try rw [Exit.noGoto_ret]
    go_ret
    refine ⟨HB.out,_,rfl,ps,HV.out,HKL.out,fun j q hj hq=>HP.out j q hj ?_⟩
    have:=hj.lt
    rw [Zcg] at *
    have h2:=hj.lt.2 (by rw [Zcg]; exact hq)
    have:=HKL.out
    omega
theorem PsV.form {h:GH} {v:Value} {l:Bs} (t:PsV h v l):∃ a cap,v = .slice a (cnt l) cap:=by
 obtain ⟨ps,⟨a,cap,hv,_⟩,hn,_⟩:=t
 exact ⟨a,cap,by rw [hv,hn]⟩
theorem PsV.at {w:World} {a:Option Addr} {n cap:Nat} {l:Bs} (t:PsV (gh w) (.slice a n cap) l) {k p:Nat} (hat:AtP l k p) (hp:p<l.length) :
 ∃ b off,a=some ⟨b,off,none⟩∧w.cell? ⟨b,off+k*4,none⟩=some (.int .i64 p)∧w.cell? ⟨b,off+k*4+1,none⟩=some (.int .i64 (wd (l.drop p)))∧w.cell? ⟨b,off+k*4+2,none⟩=some (.int .i32 (rn (l.drop p)))∧w.cell? ⟨b,off+k*4+3,none⟩=some (.bool (badB (l.drop p))):=by
 obtain ⟨ps,⟨a',cap',hv,hn,hc,hm,hcell⟩,hpn,hps⟩:=t
 simp only [Value.slice.injEq] at hv
 obtain ⟨rfl,rfl,rfl⟩:=hv
 have hx:=hps k p hat hp
 have hj:=(List.getElem?_eq_some_iff.1 hx).1
 have hd:ps.getD k 0=p:=by rw [List.getD_eq_getElem?_getD,hx]; rfl
 have get:∀ c y,(pcells l p)[c]?=some y→∃ b off,a=some ⟨b,off,none⟩∧(gh w).cell b (off+(4*k+c))=some y:=fun c y h=>hcell k c y hj (by show (pcells l (ps.getD k 0))[c]?=_; rw [hd]; exact h)
 obtain ⟨b,off,ha,h0⟩:=get 0 _ rfl
 obtain ⟨b1,off1,ha1,h1⟩:=get 1 _ rfl
 obtain ⟨b2,off2,ha2,h2⟩:=get 2 _ rfl
 obtain ⟨b3,off3,ha3,h3⟩:=get 3 _ rfl
 rw [ha] at ha1 ha2 ha3
 simp only [Option.some.injEq,Addr.mk.injEq,and_true] at ha1 ha2 ha3
 obtain ⟨rfl,rfl⟩:=ha1
 obtain ⟨rfl,rfl⟩:=ha2
 obtain ⟨rfl,rfl⟩:=ha3
 rw [Zad] at h0 h1 h2 h3
 rw [Nat.mul_comm 4 k,←Nat.add_assoc] at h0 h1 h2 h3
 exact ⟨b,off,ha,h0,h1,h2,h3⟩
theorem ZkX (s:ByteArray) (w:World) (hs:s.size≤1000000):Calls Tryz.prog 189 #[.string s] w fun e w'=>e = .returned (.int .i64 (cnt s.data.toList))∧Below w.heap.size w w':=by
 have HP:=Zq (ZkW s w hs)
 go_in
 go_wp2_with fail
 refine HP.out.mono ?_
 rintro e W ⟨hb,v,rfl,hv⟩
 obtain ⟨a,cap,rfl⟩:=hv.form
 clear hv
 go_wp2
 go_ret
 exact ⟨rfl,hb⟩
theorem ZkY (s:ByteArray) (w:World) (hs:s.size≤1000000):Calls Tryz.prog 188 #[.string s] w fun e w'=>e = .returned (.bool (val s.data.toList))∧Below w.heap.size w w':=by
 have HP:=Zq (ZkW s w hs)
 obtain ⟨R,hR⟩:∃ R,val s.data.toList=R:=⟨_,rfl⟩
 rw [hR]
 have HR:=Zq hR
 have HCL:=Zq (Zbk s.data.toList)
 clear hR
 go_in
 go_wp2_with fail
 refine HP.out.mono ?_
 rintro e W ⟨hb,v,rfl,hv⟩
 obtain ⟨a,cap,rfl⟩:=hv.form
 have HV:=Zq hv
 have HB:=Zq hb
 obtain ⟨n,hn⟩:∃ n,cnt s.data.toList=n:=⟨_,rfl⟩
 have HN:=Zq hn
 rw [hn] at HV ⊢
 have hn1:n≤1000000:=by have:=HCL.out; rw [Zcg] at this; omega
 clear hv hb hn HP
 go_wp2
 go_loopg [4] n (fun g i wr=>∃ k p:Nat,i = .int .i64 k∧k+g=n∧wr=W∧Hid (AtP s.data.toList k p)∧Hid (val (s.data.toList.drop p)=R))
 case atStart=>exact ⟨0,0,rfl,by omega,rfl,Zq .zero,Zq (by rw [List.drop_zero]; exact HR.out)⟩
 case round =>
  obtain ⟨k,p,rfl,hg,rfl,HA,HC⟩:=hrel
  have hlp:=HA.out.lt
  rw [HN.out] at hlp
  by_cases hlt:k<n
  · have hp:=hlp.1 hlt
    obtain ⟨b,off,rfl,c0,c1,c2,c3⟩:=HV.out.at HA.out hp
    have hne:=ZjC hp
    have hst:=HA.out.step hp
    have hvc:=HC.out
    rw [ZbA hne] at hvc
    have HST:=Zq hst
    clear hlp hne hst hp c0 c1 c2
    cases hbd:badB (s.data.toList.drop p) with
    | true =>
     have HE:Hid (R=false):=Zq (by rw [←hvc,if_pos (of_decide_eq_true hbd)])
     rw [hbd] at c3
     clear hvc hbd
     go_wp2
     try rw [Exit.noGoto_ret]
     go_ret
     exact ⟨by rw [HE.out]; rfl,HB.out⟩
    | false =>
     have HE:Hid (val (s.data.toList.drop (p+wd (s.data.toList.drop p)))=R):=Zq (by
      rw [←hvc,if_neg (of_decide_eq_false hbd),List.drop_drop])
     rw [hbd] at c3
     clear hvc hbd
     go_wp2
     go_roundg (gk - 1)
     case rel=>exact ⟨k+1,p+wd (s.data.toList.drop p),by go_num,by omega,rfl,HST,HE⟩
     case measure=>omega
  · have HE:Hid (R=true):=Zq (by
     have:¬ p<s.data.toList.length:=fun h=>hlt (hlp.2 h)
     rw [←HC.out,List.drop_eq_nil_of_le (by omega),Zbz])
    clear hlp
    go_wp2
    try rw [Exit.noGoto_ret]
    go_ret
    exact ⟨by rw [HE.out]; rfl,HB.out⟩
structure LSt (W:World) (B:Nat) (s:Bs) (pv:Value) (k p:Nat):Prop where
 cell:W.heap[B]?=some (.cells #[.string ⟨s.toArray⟩,pv,.int .i64 k] 108 (0,0))
 at':AtP s k p
theorem LSt.cells {W:World} {B:Nat} {s:Bs} {pv:Value} {k p:Nat} (h:LSt W B s pv k p) :
 W.cell? ⟨B,0,none⟩=some (.string ⟨s.toArray⟩)∧W.cell? ⟨B,1,none⟩=some pv∧W.cell? ⟨B,2,none⟩=some (.int .i64 k)∧W.frozen? ⟨B,2,none⟩=false∧B<W.heap.size:=by
 have h:=h.cell
 exact ⟨by simp [World.cell?,h],by simp [World.cell?,h],by simp [World.cell?,h],by simp [World.frozen?,h],(Array.getElem?_eq_some_iff.1 h).1⟩
theorem LSt.keep {W W':World} {B:Nat} {s:Bs} {pv:Value} {k p:Nat} (h:LSt W B s pv k p) (hb:Below W.heap.size W W'):LSt W' B s pv k p :=
 ⟨by rw [hb.block _ (Array.getElem?_eq_some_iff.1 h.cell).1]; exact h.cell,h.at'⟩
theorem LSt.set {W:World} {B:Nat} {s:Bs} {pv:Value} {k p:Nat} (h:LSt W B s pv k p) (x:Int) {k' p':Nat} (e:x=k') (ha:AtP s k' p'):LSt (W.setCell ⟨B,2,none⟩ (.int .i64 x)) B s pv k' p':=by
 subst e
 refine ⟨?_,ha⟩
 have:=h.cell
 simp [World.setCell,Array.getElem?_modify,this]
theorem LSt.other {W:World} {B:Nat} {s:Bs} {pv:Value} {k p:Nat} (h:LSt W B s pv k p) {a:Addr} (ha:a.block≠B) (v:Value):LSt (W.setCell a v) B s pv k p :=
 ⟨by rw [Below.heap_setCell _ _ _ _ (fun e=>ha e.symm)]; exact h.cell,h.at'⟩
theorem LSt.alloc {W:World} {B:Nat} {s:Bs} {pv:Value} {k p:Nat} (h:LSt W B s pv k p) (o:Obj):LSt (W.alloc o) B s pv k p:=h.keep ((Below.refl _ _).alloc Zs _)
def TkB (W:World) (b:Nat) (kd:Int) (ts:Bs) (n:Int) (p:Nat):Prop:=W.heap[b]?=some (.cells #[.int .i64 kd,.string ⟨ts.toArray⟩,.int .i64 n,.int .i64 p] 86 (0,0))
theorem TkB.keep {W W':World} {b:Nat} {kd:Int} {ts:Bs} {n:Int} {p:Nat} (h:TkB W b kd ts n p) (hb:Below W.heap.size W W'):TkB W' b kd ts n p:=by
 unfold TkB at *
 rw [hb.block _ (Array.getElem?_eq_some_iff.1 h).1]; exact h
theorem TkB.but {W W':World} {B b:Nat} {kd:Int} {ts:Bs} {n:Int} {p:Nat} (h:TkB W b kd ts n p) (hb:But B W W') (hne:b≠B):TkB W' b kd ts n p:=by
 unfold TkB at *
 rw [hb.block _ (Array.getElem?_eq_some_iff.1 h).1 hne]; exact h
theorem TkB.other {W:World} {b:Nat} {kd:Int} {ts:Bs} {n:Int} {p:Nat} (h:TkB W b kd ts n p) {a:Addr} (ha:a.block≠b) (v:Value):TkB (W.setCell a v) b kd ts n p:=by
 unfold TkB at *
 rw [Below.heap_setCell _ _ _ _ (fun e=>ha e.symm)]; exact h
theorem TkB.setN {W:World} {b:Nat} {kd:Int} {ts:Bs} {n:Int} {p:Nat} (h:TkB W b kd ts n p) (m:Int):TkB (W.setCell ⟨b,2,none⟩ (.int .i64 m)) b kd ts m p:=by
 unfold TkB at *
 simp [World.setCell,Array.getElem?_modify,h]
theorem TkB.setS {W:World} {b:Nat} {kd:Int} {ts:Bs} {n:Int} {p:Nat} (h:TkB W b kd ts n p) (us:Bs):TkB (W.setCell ⟨b,1,none⟩ (.string ⟨us.toArray⟩)) b kd us n p:=by
 unfold TkB at *
 simp [World.setCell,Array.getElem?_modify,h]
def clsAt (s:Bs) (p:Nat):Int:=if p<s.length then cls (rn (s.drop p)) else -1
theorem ZkZ {s:Bs} {p:Nat} (h:p<s.length):clsAt s p=cls (rn (s.drop p)):=if_pos h
theorem Zk0 {s:Bs} {p:Nat} (h:¬ p<s.length):clsAt s p = -1:=if_neg h
theorem Zk1 {s:Bs} {p:Nat} {c:Int} (h:clsAt s p=c) (hc:0≤c):p<s.length∧cls (rn (s.drop p))=c:=by
 unfold clsAt at h
 split at h
 · exact ⟨by assumption,h⟩
 · omega
theorem Zk2 (s:Bs) (B k p:Nat) (pv:Value) (w:World) (hs:s.length≤1000000) (h:LSt w B s pv k p) (hP:PsV (gb B w) pv s) :
 Calls Tryz.prog 62 #[.pointer (some ⟨B,0,none⟩)] w fun e w'=>e = .returned (.int .i64 (clsAt s p))∧Below w.heap.size w w':=by
 obtain ⟨c0,c1,c2,-,-⟩:=h.cells
 obtain ⟨a,cap,rfl⟩:=hP.form
 have hlt':=h.at'.lt
 have hcl:=Zbk s
 have hPg:PsV (gh w) (.slice a (cnt s) cap) s:=hP.mono (Zdu B w)
 by_cases hp:p<s.length
 · have hk:k<cnt s:=hlt'.2 hp
   obtain ⟨b,off,rfl,d0,d1,d2,d3⟩:=hPg.at h.at' hp
   have HE:=Zq (ZkZ hp)
   have hbc:=ZjE (l:=s.drop p)
   have hrr:=ZaV (s.drop p)
   generalize rn (s.drop p)=r at *
   generalize cnt s=n at *
   have hkn:k≤1000000:=by omega
   have HCL:=Zq (fun w=>Zkg r w (by omega))
   clear h hP hlt' hPg hp d0 d1 c0
   cases hbd:badB (s.drop p) with
   | true =>
    have HZ:Hid (clsAt s p=0):=Zq (by rw [HE.out]; exact hbc hbd)
    rw [hbd] at d3
    clear hbc hbd HE
    go_in
    go_wp2
    go_region
    go_wp2
    go_region
    go_wp2
    go_ret
    exact ⟨by rw [HZ.out]; rfl,(Below.refl _ _).drew.drew⟩
   | false =>
    rw [hbd] at d3
    clear hbc hbd
    go_in
    go_wp2
    go_region
    go_wp2
    go_region
    go_wp2
    go_quiet ((go_at_call 87; exact (HCL.out _).mono fun _ _ ⟨he,hw⟩=>⟨he,_,hw⟩))
    go_wp2
    go_ret
    exact ⟨by rw [HE.out]; rfl,below_drewN ((Below.refl _ _).drew.drew) _⟩
 · have hk:¬ k<cnt s:=fun x=>hp (hlt'.1 x)
   have HZ:=Zq (Zk0 hp)
   generalize cnt s=n at *
   clear h hP hlt' hPg hp c0
   go_in
   go_wp2
   go_region
   go_wp2
   go_ret
   exact ⟨by rw [HZ.out]; rfl,(Below.refl _ _).drew⟩
theorem Zk3 (s:Bs) (B k p:Nat) (pv:Value) (w:World) (hs:s.length≤1000000) (h:LSt w B s pv k p) (hP:PsV (gb B w) pv s) :
 Calls Tryz.prog 88 #[.pointer (some ⟨B,0,none⟩)] w fun e w'=>e = .returned (.int .i64 p)∧Below w.heap.size w w':=by
 obtain ⟨c0,c1,c2,-,-⟩:=h.cells
 obtain ⟨a,cap,rfl⟩:=hP.form
 have hlt':=h.at'.lt
 have hcl:=Zbk s
 have hle:=h.at'.le
 have hPg:PsV (gh w) (.slice a (cnt s) cap) s:=hP.mono (Zdu B w)
 by_cases hp:p<s.length
 · have hk:k<cnt s:=hlt'.2 hp
   obtain ⟨b,off,rfl,d0,d1,d2,d3⟩:=hPg.at h.at' hp
   generalize cnt s=n at *
   have hkn:k≤1000000:=by omega
   clear h hP hlt' hPg hp d1 d2 d3 hle
   go_in
   go_wp2
   go_region
   go_wp2
   go_region
   go_wp2
   go_ret
   exact ⟨rfl,(Below.refl _ _).drew.drew⟩
 · have hk:¬ k<cnt s:=fun x=>hp (hlt'.1 x)
   have HE:Hid (s.length=p):=Zq (by omega)
   generalize cnt s=n at *
   clear h hP hlt' hPg hp hle
   go_in
   go_wp2
   go_region
   go_wp2
   go_ret
   refine ⟨?_,(Below.refl _ _).drew⟩
   have:=HE.out
   simp [ByteArray.size,this]
def tkPost (B:Nat) (s:Bs) (pv:Value) (p:Nat) (w:World) (e:Ending) (w':World):Prop :=
 But B w w'∧match tok1 (s.drop p) with
  | some (kd,ts,n,z)=>e = .returned (.tuple #[tokV kd ts n p,.bool true])∧∃ k',LSt w' B s pv k' (p+z)
  | none=>∃ kd ts n,e = .returned (.tuple #[tokV kd ts n p,.bool false])
structure TW (w wr:World) (B TB:Nat) (s:Bs) (pv:Value) (k q:Nat) (kd:Int) (ts:Bs) (n:Int) (p:Nat):Prop where
 st:LSt wr B s pv k q
 but:But B w wr
 res:TkB wr w.heap.size 0 [] 0 0
 tok:TkB wr TB kd ts n p
 h1:B<w.heap.size
 h2:w.heap.size<TB
theorem TW.call {w wr W2:World} {B TB:Nat} {s:Bs} {pv:Value} {k q:Nat} {kd:Int} {ts:Bs} {n:Int} {p:Nat} (h:TW w wr B TB s pv k q kd ts n p) (hb:Below wr.heap.size wr W2):TW w W2 B TB s pv k q kd ts n p :=
 ⟨h.st.keep hb,h.but.call hb,h.res.keep hb,h.tok.keep hb,h.h1,h.h2⟩
theorem TW.esc {w wr W2:World} {B TB:Nat} {s:Bs} {pv:Value} {k q k' q':Nat} {kd:Int} {ts:Bs} {n:Int} {p:Nat} (h:TW w wr B TB s pv k q kd ts n p) (hb:But B wr W2) (hl:LSt W2 B s pv k' q'):TW w W2 B TB s pv k' q' kd ts n p :=
 ⟨hl,h.but.trans hb,h.res.but hb (by have:=h.h1; omega),h.tok.but hb (by have:=h.h1; have:=h.h2; omega),h.h1,h.h2⟩
theorem TW.setK {w wr:World} {B TB:Nat} {s:Bs} {pv:Value} {k q:Nat} {kd:Int} {ts:Bs} {n:Int} {p:Nat} (h:TW w wr B TB s pv k q kd ts n p) (x:Int) {k' q':Nat} (e:x=k') (ha:AtP s k' q'):TW w (wr.setCell ⟨B,2,none⟩ (.int .i64 x)) B TB s pv k' q' kd ts n p :=
 ⟨h.st.set x e ha,h.but.setPb 2 _,h.res.other (by have:=h.h1; simp; omega) _,h.tok.other (by have:=h.h1; have:=h.h2; simp; omega) _,h.h1,h.h2⟩
theorem TW.setN {w wr:World} {B TB:Nat} {s:Bs} {pv:Value} {k q:Nat} {kd:Int} {ts:Bs} {n:Int} {p:Nat} (h:TW w wr B TB s pv k q kd ts n p) (m:Int):TW w (wr.setCell ⟨TB,2,none⟩ (.int .i64 m)) B TB s pv k q kd ts m p :=
 ⟨h.st.other (by have:=h.h1; have:=h.h2; simp; omega) _,h.but.setNew (by have:=h.h2; simp; omega) _,h.res.other (by have:=h.h2; simp; omega) _,h.tok.setN m,h.h1,h.h2⟩
theorem TW.setS {w wr:World} {B TB:Nat} {s:Bs} {pv:Value} {k q:Nat} {kd:Int} {ts:Bs} {n:Int} {p:Nat} (h:TW w wr B TB s pv k q kd ts n p) (us:Bs):TW w (wr.setCell ⟨TB,1,none⟩ (.string ⟨us.toArray⟩)) B TB s pv k q kd us n p :=
 ⟨h.st.other (by have:=h.h1; have:=h.h2; simp; omega) _,h.but.setNew (by have:=h.h2; simp; omega) _,h.res.other (by have:=h.h2; simp; omega) _,h.tok.setS us,h.h1,h.h2⟩
theorem TW.drew {w wr:World} {B TB:Nat} {s:Bs} {pv:Value} {k q:Nat} {kd:Int} {ts:Bs} {n:Int} {p:Nat} (h:TW w wr B TB s pv k q kd ts n p):TW w wr.drew B TB s pv k q kd ts n p:=h.call (Below.refl _ _).drew
theorem TW.cells {w wr:World} {B TB:Nat} {s:Bs} {pv:Value} {k q:Nat} {kd:Int} {ts:Bs} {n:Int} {p:Nat} (h:TW w wr B TB s pv k q kd ts n p) :
 (wr.cell? ⟨TB,0,none⟩=some (.int .i64 kd)∧wr.cell? ⟨TB,1,none⟩=some (.string ⟨ts.toArray⟩)∧wr.cell? ⟨TB,2,none⟩=some (.int .i64 n)∧wr.cell? ⟨TB,3,none⟩=some (.int .i64 p))∧(wr.frozen? ⟨TB,1,none⟩=false∧wr.frozen? ⟨TB,2,none⟩=false) ∧
 (wr.cell? ⟨w.heap.size,0,none⟩=some (.int .i64 0)∧wr.cell? ⟨w.heap.size,1,none⟩=some (.string ⟨#[]⟩)∧wr.cell? ⟨w.heap.size,2,none⟩=some (.int .i64 0)∧wr.cell? ⟨w.heap.size,3,none⟩=some (.int .i64 0))∧(wr.frozen? ⟨w.heap.size,0,none⟩=false∧wr.frozen? ⟨w.heap.size,1,none⟩=false∧wr.frozen? ⟨w.heap.size,2,none⟩=false∧wr.frozen? ⟨w.heap.size,3,none⟩=false):=by
 have a:=h.tok
 have b:=h.res
 unfold TkB at a b
 exact ⟨(ZdP a).1,⟨(ZdP a).2.2.1,(ZdP a).2.2.2.1⟩,(ZdP b).1,(ZdP b).2⟩
theorem TW.done {w wr:World} {B TB:Nat} {s:Bs} {pv:Value} {k q:Nat} {kd:Int} {ts:Bs} {n:Int} {p:Nat} (h:TW w wr B TB s pv k q kd ts n p) {W:World} (hW:W=((((wr.setCell ⟨w.heap.size,0,none⟩ (.int .i64 kd)).setCell ⟨w.heap.size,1,none⟩ (.string ⟨ts.toArray⟩)).setCell ⟨w.heap.size,2,none⟩ (.int .i64 n)).setCell ⟨w.heap.size,3,none⟩ (.int .i64 p))) :
 LSt W B s pv k q∧But B w W∧(W.cell? ⟨w.heap.size,0,none⟩=some (.int .i64 kd)∧W.cell? ⟨w.heap.size,1,none⟩=some (.string ⟨ts.toArray⟩)∧W.cell? ⟨w.heap.size,2,none⟩=some (.int .i64 n)∧W.cell? ⟨w.heap.size,3,none⟩=some (.int .i64 p)):=by
 subst hW
 have b:=h.res
 unfold TkB at b
 have hn:w.heap.size≠B:=by have:=h.h1; omega
 exact ⟨(((h.st.other hn _).other hn _).other hn _).other hn _,h.but.set4 Zs _ _ _ _,(ZdP (ZdM b _ _ _ _)).1⟩
theorem Zk4 (w:World):TkB (w.alloc (.cells #[.int .i64 0,.string ⟨#[]⟩,.int .i64 0,.int .i64 0] 86)) w.heap.size 0 [] 0 0:=heap_alloc_new w _
theorem TW.make {w W:World} {B:Nat} {s:Bs} {pv:Value} {k q:Nat} (h:LSt w B s pv k q) (hb:Below (w.alloc (.cells #[.int .i64 0,.string ⟨#[]⟩,.int .i64 0,.int .i64 0] 86)).heap.size (w.alloc (.cells #[.int .i64 0,.string ⟨#[]⟩,.int .i64 0,.int .i64 0] 86)) W) (kd:Int) (p:Nat) :
 TW w (W.alloc (.cells #[.int .i64 kd,.string ⟨#[]⟩,.int .i64 0,.int .i64 p] 86)) B W.heap.size s pv k q kd [] 0 p:=by
 have hs:=hb.size
 have hbn:Below W.heap.size W (W.alloc (.cells #[.int .i64 kd,.string ⟨#[]⟩,.int .i64 0,.int .i64 p] 86)):=(Below.refl _ _).alloc Zs _
 exact ⟨((h.alloc _).keep hb).alloc _,(((But.refl B w).alloc _).call hb).alloc _,((Zk4 w).keep hb).keep hbn,heap_alloc_new W _,h.cells.2.2.2.2,by simp at hs; omega⟩
theorem Zk5 {l:Bs} {n:Int} {ok:Bool} (h:cls (rn l)=2) (hn:l≠[]) :
 numR (l.take (run 2 2 l)) n ok=(if (9223372036854775807 - (rn l - 48)) / 10<n then numR ((l.drop 1).take (run 2 2 (l.drop 1))) n false else numR ((l.drop 1).take (run 2 2 (l.drop 1))) (n*10+(rn l - 48)) ok):=by
 obtain ⟨h1,h2,h3⟩:=ZjG hn h
 have h4:=ZjF h
 rw [h1,ZjH,h2,h4.2.1]
theorem Zk6 {l:Bs} (hn:l≠[]) (hc:cls (rn l)=2) :
 (∃ v,tok1 l=some (1,[],v,run 2 2 l)∧numR (l.take (run 2 2 l)) 0 true=(v,true))∨(tok1 l=none∧(numR (l.take (run 2 2 l)) 0 true).2=false):=by
 have hne:l.take (run 2 2 l)≠[]:=by rw [(ZjG hn hc).1]; simp
 have h:=ZjB hne (Zbl _ l Zs)
 unfold tok1
 rw [if_pos hc]
 cases hv:numOf (l.take (run 2 2 l)) with
 | none=>rw [hv] at h; exact .inr ⟨rfl,h⟩
 | some v=>rw [hv] at h; exact .inl ⟨v,rfl,h⟩
theorem Zk7 {a b:Int} {s:Bs} {q:Nat} (h:¬ (clsAt s q=a∨clsAt s q=b)):run a b (s.drop q)=0:=by
 by_cases hq:q<s.length
 · rw [ZkZ hq] at h; exact Za4 h
 · rw [List.drop_eq_nil_of_le (by omega),Za3]
theorem Zk8 (s:Bs) (B k p:Nat) (pv:Value) (w:World) (hs:s.length≤1000000) (h:LSt w B s pv k p) (hP:PsV (gb B w) pv s) (hp:p<s.length) (hc:cls (rn (s.drop p))=2) :
 Calls Tryz.prog 63 #[.pointer (some ⟨B,0,none⟩)] w (tkPost B s pv p w):=by
 have hT:=Zq (Zk6 (ZjC hp) hc)
 obtain ⟨a,cap,rfl⟩:=hP.form
 obtain ⟨R,hR⟩:∃ R,numR ((s.drop p).take (run 2 2 (s.drop p))) 0 true=R:=⟨_,rfl⟩
 obtain ⟨z,hz⟩:∃ z,run 2 2 (s.drop p)=z:=⟨_,rfl⟩
 have HR:=Zq hR
 have HZ:=Zq hz
 have HP:=Zq hP
 have HS:=Zq h
 have hcl:=Zbk s
 have hb0:Below w.heap.size w (w.alloc (.cells #[.int .i64 0,.string ⟨#[]⟩,.int .i64 0,.int .i64 0] 86)):=(Below.refl _ _).alloc Zs _
 have HH:=Zq (Zk3 s B k p _ _ hs (h.keep hb0) (hP.mono (But.below hb0).gb))
 have HCC:=Zq (fun k p w h hP=>Zk2 s B k p (.slice a (cnt s) cap) w hs h hP)
 have HLT:=Zq (fun k p (h:AtP s k p)=>h.lt)
 generalize cnt s=n at *
 have hn1:n≤1000000:=by omega
 clear hR hz h hP hc hs hb0
 go_in
 go_wp2_with fail
 refine HH.out.mono ?_
 rintro e W ⟨rfl,hb⟩
 have HTW:=Zq (TW.make HS.out hb 1 p)
 clear hb HH HS
 go_wp2
 go_loopg [5] s.length (fun g ok wr=>∃ (k q:Nat) (m:Int) (b:Bool),ok = .bool b∧Hid (TW w wr B W.heap.size s (.slice a n cap) k q 1 [] m p)∧Hid (numR ((s.drop q).take (run 2 2 (s.drop q))) m b=R) ∧
  (0≤m∧m≤9223372036854775807)∧Hid (q+run 2 2 (s.drop q)=p+z)∧s.length≤q+g∧q≤s.length)
 case atStart=>exact ⟨k,p,0,true,rfl,HTW,HR,⟨by omega,by omega⟩,Zq (by rw [HZ.out]),by omega,by omega⟩
 case round =>
  obtain ⟨k2,q,m,b,rfl,HL,HN,hm,HQ,hg,hq⟩:=hrel
  have hP2:=HP.out.mono HL.out.but.gb
  go_wp2_with fail
  refine (HCC.out k2 q wr HL.out.st hP2).mono ?_
  rintro e W2 ⟨rfl,hb2⟩
  have HL2:=Zq (HL.out.call hb2)
  clear hb2 hP2 HL
  obtain ⟨⟨t0,t1,t2,t3⟩,⟨tf1,tf2⟩,⟨r0,r1,r2,r3⟩,g0,g1,g2,g3⟩:=HL2.out.cells
  by_cases hc:clsAt s q=2
  · obtain ⟨hql,hcq⟩:=Zk1 hc (by omega)
    have hlow:=ZjF hcq
    have hr2:=cls_2.1 hcq
    have hnr:=Zk5 (n:=m) (ok:=b) hcq (ZjC hql)
    have hrun:=(ZjG (ZjC hql) hcq).2.2
    have hst:=HL2.out.st.at'.step hql
    rw [hlow.1] at hst
    rw [List.drop_drop] at hnr hrun
    rw [HN.out] at hnr
    have HRUN:Hid (q+1+run 2 2 (s.drop (q+1))=p+z):=Zq (by have:=HQ.out; omega)
    have HST:=Zq hst
    have hkl:k2<n:=(HLT.out _ _ HL2.out.st.at').2 hql
    have hPg:PsV (gh W2) (.slice a n cap) s:=(HP.out.mono HL2.out.but.gb).mono (Zdu B W2)
    obtain ⟨bb,off,rfl,-,-,d2,-⟩:=hPg.at HL2.out.st.at' hql
    obtain ⟨-,c1,c2,f2,-⟩:=HL2.out.st.cells
    have hne1:¬ W.heap.size=B:=by have:=HL2.out.h1; have:=HL2.out.h2; omega
    have hne2:¬ B=W.heap.size:=fun h=>hne1 h.symm
    generalize rn (s.drop q)=r at *
    clear hcq hlow hrun hst hPg HQ HN t0 t1 t3 tf1 r0 r1 r2 r3 g0 g1 g2 g3
    rw [hc]
    clear hc
    by_cases hov:(9223372036854775807 - (r - 48)) / 10<m
    · rw [if_pos hov] at hnr
      have HNR:=Zq hnr
      clear hnr
      go_wp2
      go_region
      go_wp2
      go_roundg (gk - 1)
      case rel=>exact ⟨k2+1,q+1,m,false,rfl,Zq (HL2.out.setK _ (by omega) HST.out).drew,Zq HNR.out.symm,hm,HRUN,by omega,by omega⟩
      case measure=>omega
    · rw [if_neg hov] at hnr
      have HNR:=Zq hnr
      have hm2:m*10+(r - 48)≤9223372036854775807:=by omega
      clear hnr
      go_wp2
      go_region
      go_wp2
      go_roundg (gk - 1)
      case rel=>exact ⟨k2+1,q+1,m*10+(r - 48),b,rfl,Zq ((HL2.out.setN _).setK _ (by omega) HST.out).drew,Zq HNR.out.symm,⟨by omega,hm2⟩,HRUN,by omega,by omega⟩
      case measure=>omega
  · have q1:(clsAt s q == 2)=false:=Zr hc
    have h0:=Zk7 (a:=2) (b:=2) (fun h=>hc (h.elim id id))
    have HE:Hid (R=(m,b)∧q=p+z):=Zq ⟨by rw [←HN.out,h0,List.take_zero,numR],by have:=HQ.out; omega⟩
    clear hc h0 HN HQ
    go_wp2
    have hd:=HL2.out.done rfl
    refine bodyPost_ret (v := .tuple #[.agg #[.int .i64 1,.string ⟨#[]⟩,.int .i64 m,.int .i64 p],.bool b]) (by simp [results,Tryz.results63,go_sem,hd.2.2]) rfl ?_
    refine ⟨hd.2.1,?_⟩
    obtain ⟨hRm,hqz⟩:=HE.out
    rcases hT.out with ⟨v,ht,hv⟩|⟨ht,hv⟩
    · rw [HR.out,hRm] at hv
      simp only [Prod.mk.injEq] at hv
      obtain ⟨rfl,rfl⟩:=hv
      rw [ht,HZ.out]
      exact ⟨rfl,k2,by rw [←hqz]; exact hd.1⟩
    · rw [HR.out,hRm] at hv
      simp only at hv
      subst hv
      rw [ht]
      exact ⟨1,[],m,rfl⟩
theorem Zk9 {W:World} {b:Nat} {v x:Value} (h:W.cell? ⟨b,3,none⟩=some x):(W.setCell ⟨b,1,none⟩ v).cell? ⟨b,3,none⟩=some x:=by
 unfold World.cell? at *
 simp only [World.setCell,Array.getElem?_modify,if_true] at *
 cases hb:W.heap[b]? with
 | none=>rw [hb] at h; simp at h
 | some o =>
  rw [hb] at h
  cases o<;>simp_all
theorem Zla {W:World} {b B i j:Nat} {v x:Value} (hne:¬ B=b) (h:W.cell? ⟨B,i,none⟩=some x):(W.setCell ⟨b,j,none⟩ v).cell? ⟨B,i,none⟩=some x:=by
 unfold World.cell? at *
 rw [Below.heap_setCell _ _ _ _ (fun e=>hne e)]
 exact h
theorem Zlb (s:Bs) (p q:Nat):(ByteArray.extract ⟨s.toArray⟩ p q)=⟨((s.drop p).take (q - p)).toArray⟩:=by
 apply ByteArray.ext
 simp [ByteArray.data_extract,List.extract]
theorem Zlc {l:Bs} (hc:cls (rn l)=1):tok1 l=if run 1 2 l≤24 then some (3,l.take (run 1 2 l),0,run 1 2 l) else none:=by
 unfold tok1
 rw [if_neg (by omega),if_pos hc]
theorem Zld (s:Bs) (B k p:Nat) (pv:Value) (w:World) (hs:s.length≤1000000) (h:LSt w B s pv k p) (hP:PsV (gb B w) pv s) (hp:p<s.length) (hc:cls (rn (s.drop p))=1) :
 Calls Tryz.prog 64 #[.pointer (some ⟨B,0,none⟩)] w (tkPost B s pv p w):=by
 have hT:=Zq (Zlc hc)
 obtain ⟨a,cap,rfl⟩:=hP.form
 obtain ⟨z,hz⟩:∃ z,run 1 2 (s.drop p)=z:=⟨_,rfl⟩
 have HZ:=Zq hz
 have HP:=Zq hP
 have HS:=Zq h
 have hcl:=Zbk s
 have hb0:Below w.heap.size w (w.alloc (.cells #[.int .i64 0,.string ⟨#[]⟩,.int .i64 0,.int .i64 0] 86)):=(Below.refl _ _).alloc Zs _
 have HH:=Zq (fun k p w h hP=>Zk3 s B k p (.slice a (cnt s) cap) w hs h hP)
 have HH0:=Zq (Zk3 s B k p _ _ hs (h.keep hb0) (hP.mono (But.below hb0).gb))
 have HCC:=Zq (fun k p w h hP=>Zk2 s B k p (.slice a (cnt s) cap) w hs h hP)
 have HLT:=Zq (fun k p (h:AtP s k p)=>h.lt)
 generalize cnt s=n at *
 have hn1:n≤1000000:=by omega
 clear hz hc h hP hb0
 go_in
 go_wp2_with fail
 refine HH0.out.mono ?_
 rintro e W ⟨rfl,hb⟩
 have HTW:=Zq (TW.make HS.out hb 3 p)
 clear hb HH0 HS
 go_wp2
 go_loopg [] s.length (fun g wr=>∃ (k q:Nat),Hid (TW w wr B W.heap.size s (.slice a n cap) k q 3 [] 0 p)∧Hid (q+run 1 2 (s.drop q)=p+z)∧s.length≤q+g∧p≤q∧q≤s.length)
 case atStart=>exact ⟨k,p,HTW,Zq (by rw [HZ.out]),by omega,by omega,by omega⟩
 case round =>
  obtain ⟨k2,q,HL,HQ,hg,hpq,hq⟩:=hrel
  have hP2:=HP.out.mono HL.out.but.gb
  go_wp2_with fail
  refine (HCC.out k2 q wr HL.out.st hP2).mono ?_
  rintro e W2 ⟨rfl,hb2⟩
  have HL2:=Zq (HL.out.call hb2)
  clear hb2 hP2 HL
  have hgo:(clsAt s q=1∨clsAt s q=2)→q<s.length∧q+wd (s.drop q)≤s.length∧1≤wd (s.drop q)∧q+wd (s.drop q)+run 1 2 (s.drop (q+wd (s.drop q)))=p+z∧AtP s (k2+1) (q+wd (s.drop q)):=by
   intro hc
   have hql:q<s.length:=by rcases hc with hc|hc<;>exact (Zk1 hc (by omega)).1
   have hcq:cls (rn (s.drop q))=1∨cls (rn (s.drop q))=2:=by rw [ZkZ hql] at hc; exact hc
   have h1:=Za5 (ZjC hql) hcq
   have h2:=ZaS (ZjC hql)
   have h3:=ZaQ (s.drop q)
   rw [List.length_drop] at h2
   rw [List.drop_drop] at h1
   have:=HQ.out
   exact ⟨hql,by omega,by omega,by omega,HL2.out.st.at'.step hql⟩
  have HGO:=Zq hgo
  clear hgo
  by_cases hc:clsAt s q=1
  · obtain ⟨hql,g1,g2,g3,g4⟩:=HGO.out (.inl hc)
    have HR:=Zq g3
    have HST:=Zq g4
    obtain ⟨-,c1,c2,f2,-⟩:=HL2.out.st.cells
    have hkl:k2<n:=(HLT.out _ _ HL2.out.st.at').2 hql
    rw [hc]
    clear hc g3 g4 HGO HQ
    generalize wd (s.drop q)=u at *
    go_wp2
    go_roundg (gk - 1)
    case rel=>exact ⟨k2+1,q+u,Zq (HL2.out.setK _ (by omega) HST.out),HR,by omega,by omega,by omega⟩
    case measure=>omega
  · have q1:(clsAt s q == 1)=false:=Zr hc
    have hP3:=HP.out.mono HL2.out.but.gb
    go_wp2_with fail
    refine (HCC.out k2 q W2 HL2.out.st hP3).mono ?_
    rintro e W3 ⟨rfl,hb3⟩
    have HL3:=Zq (HL2.out.call hb3)
    clear hb3 hP3 HL2
    by_cases hc2:clsAt s q=2
    · obtain ⟨hql,g1,g2,g3,g4⟩:=HGO.out (.inr hc2)
      have HR:=Zq g3
      have HST:=Zq g4
      obtain ⟨-,c1,c2,f2,-⟩:=HL3.out.st.cells
      have hkl:k2<n:=(HLT.out _ _ HL3.out.st.at').2 hql
      rw [hc2]
      clear hc hc2 g3 g4 HGO HQ q1
      generalize wd (s.drop q)=u at *
      go_wp2
      go_roundg (gk - 1)
      case rel=>exact ⟨k2+1,q+u,Zq (HL3.out.setK _ (by omega) HST.out),HR,by omega,by omega,by omega⟩
      case measure=>omega
    · have q2:(clsAt s q == 2)=false:=Zr hc2
      have h0:=Zk7 (a:=1) (b:=2) (fun h=>h.elim hc hc2)
      have HE:Hid (q=p+z):=Zq (by have:=HQ.out; omega)
      have hP3:=Zq (HP.out.mono HL3.out.drew.but.gb)
      obtain ⟨⟨t0,t1,t2,t3⟩,⟨tf1,tf2⟩,-,-⟩:=HL3.out.cells
      obtain ⟨c0,-,-,-,-⟩:=HL3.out.st.cells
      have hne1:¬ W.heap.size=B:=by have:=HL3.out.h1; have:=HL3.out.h2; omega
      have hne2:¬ B=W.heap.size:=fun h=>hne1 h.symm
      have hne3:¬ w.heap.size=W.heap.size:=by have:=HL3.out.h1; have:=HL3.out.h2; omega
      obtain ⟨sb,hsb⟩:∃ sb:ByteArray,(⟨s.toArray⟩:ByteArray)=sb:=⟨_,rfl⟩
      have HX:Hid (sb.extract p q=⟨((s.drop p).take (q - p)).toArray⟩):=Zq (by rw [←hsb]; exact Zlb s p q)
      have hqs:q≤sb.size:=by rw [←hsb]; simpa [ByteArray.size] using hq
      rw [hsb] at c0
      have HSB:=Zq hsb
      clear hc hc2 h0 HQ HGO t0 t1 t2 hsb
      go_wp2
      go_region_held3 (fun w'=>(w'.cell? ⟨B,0,none⟩=some (.string sb)∧w'.cell? ⟨W.heap.size,3,none⟩=some (.int .i64 p))) (((try dsimp only); (repeat' apply And.intro); all_goals (first|go_keep|exact Zla hne2 v0|exact Zk9 u3)))
       ((go_at_call 88; refine (HH.out k2 q W3.drew HL3.out.drew.st hP3.out).mono ?_; rintro r W4 ⟨rfl,hb4⟩; have HL4:=Zq (HL3.out.drew.call hb4); obtain ⟨⟨u0,u1,u2,u3⟩,⟨uf1,uf2⟩,-,-⟩:=HL4.out.cells; obtain ⟨v0,-,-,-,-⟩:=HL4.out.st.cells; rw [HSB.out] at v0; clear hb4))
      all_goals
       rw [HX.out]
       have HL5:=Zq (HL4.out.setS ((s.drop p).take (q - p)))
       have hln:((s.drop p).take (q - p)).length=z:=by rw [List.length_take,List.length_drop]; have:=HE.out; omega
       obtain ⟨us,hus⟩:∃ us,(s.drop p).take (q - p)=us:=⟨_,rfl⟩
       rw [hus] at HL5 hln ⊢
       have HUS:=Zq hus
       clear hus
       generalize W4.setCell ⟨W.heap.size,1,none⟩ (.string ⟨us.toArray⟩)=W5 at *
       clear u0 u1 u2 u3 uf1 uf2 v0 c0 t3 tf1 tf2 HX
       obtain ⟨⟨t0,t1,t2,t3⟩,⟨tf1,tf2⟩,⟨r0,r1,r2,r3⟩,g0,g1,g2,g3⟩:=HL5.out.cells
       obtain ⟨sb2,hsb2⟩:∃ sb:ByteArray,(⟨us.toArray⟩:ByteArray)=sb:=⟨_,rfl⟩
       have hsz2:sb2.size=us.length:=by rw [←hsb2]; simp [ByteArray.size]
       rw [hsb2] at t1
       have HSB2:=Zq hsb2
       obtain ⟨zz,hzz⟩:∃ zz,sb2.size=zz:=⟨_,rfl⟩
       have hzle:zz≤1000000:=by have:=HE.out; omega
       have HZZ:Hid (zz=z):=Zq (by omega)
       clear hsb2 hsz2 hln
       go_wp2
       go_region
       go_wp2
       rw [←HSB2.out]
       have hd:=HL5.out.done rfl
       refine bodyPost_ret (v := .tuple #[.agg #[.int .i64 3,.string ⟨us.toArray⟩,.int .i64 0,.int .i64 p],.bool (decide ((zz:Int)≤24))]) (by simp [results,Tryz.results64,go_sem,hd.2.2]) rfl ?_
       refine ⟨hd.2.1.drew,?_⟩
       have ht:=hT.out
       rw [HZ.out] at ht
       have e1:(s.drop p).take z=us:=by rw [←HUS.out]; congr 1; have:=HE.out; omega
       rw [e1] at ht
       by_cases h24:z≤24
       · rw [if_pos h24] at ht
         rw [ht]
         have hz24:(zz:Int)≤24:=by have:=HZZ.out; omega
         exact ⟨by rw [decide_eq_true hz24]; rfl,k2,by rw [←HE.out]; exact hd.1.keep (Below.refl _ _).drew⟩
       · rw [if_neg h24] at ht
         rw [ht]
         have hz24:¬ (zz:Int)≤24:=by have:=HZZ.out; omega
         exact ⟨3,us,0,by rw [decide_eq_false hz24]; rfl⟩
end Go.Proofs.YtpfhhikbaeknpaaGreatDoor
