/- The walks of the graph: what each needs, in order, who is st. -/
import Derived.Test.YtikannmgllejfaaGreatDoorKSD
set_option maxHeartbeats 2000000
set_option maxRecDepth 100000
set_option linter.all false
namespace Go.Proofs.YtikannmgllejfaaGreatDoor
open Go.RowKit Pal Pal.Graph
theorem Ziw:(Tryz.prog.info? 3).map (fun i=>(i.zero,i.size,i.bytes))=some (some (.int .i64 0),1,8):=by kernel_rfl
theorem Zix:(Tryz.prog.info? 30).map (fun i=>(i.zero,i.size,i.bytes))=some (some (.slice none 0 0),1,24):=by kernel_rfl
def fil (n:Int) (xs:List Int) (k:Nat):List Int:=(xs.take k).filter fun k=>decide (0<=k)&&decide (k<n)
theorem Ziy (n:Int) (xs:List Int) (k:Nat):(fil n xs k).length<=k:=Nat.le_trans (List.length_filter_le _ _) (List.length_take_le _ _)
theorem Ziz {n:Int} {xs:List Int} {k:Nat} {x:Int} (hx:xs[k]?=some x) (h:0<=x/\x<n):fil n xs (k+1)=fil n xs k++[x]:=by simp [fil,List.take_add_one,hx,List.filter_append,h]
theorem ZiA {n:Int} {xs:List Int} {k:Nat} {x:Int} (hx:xs[k]?=some x) (h:¬ (0<=x/\x<n)):fil n xs (k+1)=fil n xs k:=by simp [fil,List.take_add_one,hx,List.filter_append];simpa using h
theorem ZiB:∃ i0,Tryz.prog.info? 3=some i0/\i0.zero=some (.int .i64 0)/\i0.size=1/\i0.bytes=8:=info_parts Ziw
theorem ZiC:∃ i0,Tryz.prog.info? 30=some i0/\i0.zero=some (.slice none 0 0)/\i0.size=1/\i0.bytes=24:=info_parts Zix
theorem ZiD (h:GH) (n:Int) (v:Value) (xss:List (List Int)) (i:Nat) (w:World) (hw:h.le (gh w)) (hx:RowsV h v xss) :
 Calls Tryz.prog 96 #[.int .i64 n,v,.int .i64 i] w fun e w'=>∃ v',e = .returned v'/\w'.ownsRow w.heap.size 3 1 v' (lst n xss i).length ((lst n xss i).map (Value.int .i64))/\Below w.heap.size w w':=by
 obtain ⟨a,ca,rfl,_,hl,hc⟩:=hx;obtain ⟨i0,hi,hz0,hz1,hz2⟩:=ZiB;by_cases hlt:i<xss.length
 . obtain ⟨xs,hxs⟩:∃ x,xss[i]?=some x:=⟨_,Yad hlt⟩;obtain ⟨b1,o1,u,rfl,hcx,ra,rc,rfl,hrn,hrl,hrc⟩:=hc i xs hxs;have hcx:=hw.at hcx;have hlst:lst n xss i=fil n xs xs.length:=(by simp [lst,hxs,fil]);rw [hlst];clear hc hxs hlst;go_in;go_wp2;go_loopw [7,19] (fun v i wr=>∃ k:Nat,k<=xs.length/\i = .int .i64 k/\∃ t,Row t 1 wr 3 1 v (fil n xs k).length ((fil n xs k).map (Value.int .i64))/\Evo T0 w t wr (·≠0))
    (fun _ i _=>xs.length - (intOf i).toNat)
   (case atStart=>exact ⟨0,Nat.zero_le _,rfl,T0,Row.nil _ _ _ _ _,Ybg _ _ _⟩);case round =>
    obtain ⟨k,hk,rfl,t,hrow,hev⟩:=hrel;by_cases hkl:k<xs.length
    . obtain ⟨x,hx⟩:∃ x,xs[k]?=some x:=⟨_,Yad hkl⟩;obtain ⟨b2,o2,rfl,hcx2⟩:=hrc k x hx;have hcx2:=hev.cell (by simp [T0]) (hw.at hcx2);have hfl:=Ziy n xs k;by_cases hgood:0<=x/\x<n
      . have F:=Zq (Ziz (n:=n) hx hgood);have HX:=Zq hx; clear hx hrc;obtain ⟨hg1,hg2⟩:=hgood;go_wp2_with (at_builtin; refine Zac rfl _ _ 30 rfl 3 i0 (.int .i64 0) 1 8 Tryz.underlying30 hi hz0 hz1 hz2 rfl (by decide) rfl hrow #[.int .i64 x] 3 (0,0) _ rfl (by simp) rfl ?c1 ?c2 ?c3 ?_);(case c1=>rfl);(case c2=>unfold maxLen; omega);(case c3=>omega);intro v' t' w' hr he;have he2:=hev.trans (he.mono (K':=(·≠0)) (by intro x hx; omega));clear hev hrow he;go_wp2;go_roundw;(case rel =>refine ⟨k+1,by omega,by go_num,t',?_,he2⟩;rw [F.out]; simpa using hr);case measure=>simp [intOf]; omega
      . have F:=Zq (ZiA (n:=n) hx hgood);have HX:=Zq hx; clear hx hrc;by_cases hg1:0<=x;all_goals go_wp2;go_roundw;(case rel =>refine ⟨k+1,by omega,by go_num,t,?_,hev⟩;rw [F.out]; exact hrow);case measure=>simp [intOf]; omega
    . have:k=xs.length:=(by omega);subst this;go_wp2;go_ret;exact ⟨_,rfl,hrow.toOwn hev (by simp),hev.toBelow (by simp)⟩
 . have hlst:lst n xss i=[]:=(by simp [lst,Yaz (Nat.le_of_not_lt hlt)]);rw [hlst];go_in;go_wp2;go_ret;exact ⟨_,rfl,World.ownsRow_nil _ _ _ _,Yab _ _⟩
open Go.RowKit Pal Pal.Graph

theorem ZiE:(Tryz.prog.info? 4).map (fun i=>(i.zero,i.size,i.bytes))=some (some (.bool false),1,1):=by kernel_rfl
theorem ZiF:∃ i0,Tryz.prog.info? 4=some i0/\i0.zero=some (.bool false)/\i0.size=1/\i0.bytes=1:=info_parts ZiE
theorem ZiG (n:Int) (w:World):Calls Tryz.prog 79 #[.int .i64 n] w fun e w'=>e = .returned (.bool (decide (0<=n/\n<=4096)))/\w'=w:=by
 by_cases h1:0<=n;all_goals by_cases h2:n<=4096
 all_goals go_in;go_wp2;go_ret;exact ⟨by simp [h1,h2],rfl⟩
theorem ZiH (h:GH) (v:Value) (xss:List (List Int)) (i:Nat) (w:World) (hw:h.le (gh w)) (hx:RowsV h v xss) :
 Calls Tryz.prog 105 #[v,.int .i64 i] w fun e w'=>∃ v',e = .returned v'/\IntsV h v' ((xss[i]?).getD [])/\w'=w:=by
 obtain ⟨a,ca,rfl,_,hl,hc⟩:=hx;by_cases hlt:i<xss.length
 . obtain ⟨xs,hxs⟩:∃ x,xss[i]?=some x:=⟨_,Yad hlt⟩;obtain ⟨b1,o1,u,rfl,hcx,hiv⟩:=hc i xs hxs;have hcx:=hw.at hcx;have e:(xss[i]?).getD []=xs:=(by rw [hxs]; rfl);rw [e];clear hc hxs e;go_in;go_wp2;go_ret;exact ⟨_,rfl,hiv,rfl⟩
 . have e:(xss[i]?).getD []=[]:=(by rw [Yaz (Nat.le_of_not_lt hlt)]; rfl);rw [e];go_in;go_wp2;go_ret;exact ⟨_,rfl,⟨none,0,rfl,fun _=>⟨rfl,rfl⟩,by simp,fun j x hj=>by simp at hj⟩,rfl⟩
def freeK (n:Int) (xs:List Int) (done:List Bool) (k:Nat):Bool:=((xs.take k).filter fun k=>decide (0<=k)&&decide (k<n)).all (isDone done)
theorem ZiI {n:Int} {xs:List Int} {done:List Bool} {k:Nat} {x:Int} (hx:xs[k]?=some x) (hf:freeK n xs done k=true) (h:(0<=x/\x<n)->isDone done x=true):freeK n xs done (k+1)=true:=by
 unfold freeK at *;rw [List.take_add_one,hx,List.filter_append,List.all_append,hf];simp only [Option.toList_some,Bool.true_and];by_cases hg:0<=x/\x<n
 . simp [hg,h hg]
 . simp only [List.filter_cons,List.filter_nil];split
   . rename_i hh; simp at hh; exact absurd hh hg
   . rfl
theorem ZiJ {n:Int} {xs:List Int} {done:List Bool} {k:Nat} {x:Int} (hx:xs[k]?=some x) (hg:0<=x/\x<n) (h:isDone done x=false):freeK n xs done xs.length=false:=by unfold freeK;rw [List.take_length,List.all_eq_false];exact ⟨x,List.mem_filter.2 ⟨Yay hx,by simp [hg]⟩,by simp [h]⟩
theorem ZiK (h:GH) (n:Int) (v vd:Value) (xs:List Int) (done:List Bool) (w:World) (hw:h.le (gh w)) (hx:IntsV h v xs) (hd:BoolsV h vd done) (hn:done.length=n.toNat) :
 Calls Tryz.prog 104 #[.int .i64 n,v,vd] w fun e w'=>e = .returned (.bool (freeK n xs done xs.length))/\w'=w:=by
 obtain ⟨a,ca,rfl,_,hl,hc⟩:=hx;obtain ⟨ad,cd,rfl,_,hcd⟩:=hd;go_in;go_wp2;go_loop [7] (fun i=>∃ k:Nat,k<=xs.length/\i = .int .i64 k/\Hid (freeK n xs done k=true)) (fun i=>xs.length - (intOf i).toNat);case atStart=>exact ⟨0,Nat.zero_le _,rfl,Zq (by simp [freeK])⟩
 case round =>
  obtain ⟨k,hk,rfl,HT⟩:=hrel;by_cases hlt:k<xs.length
  . obtain ⟨x,hx⟩:∃ x,xs[k]?=some x:=⟨_,Yad hlt⟩;obtain ⟨b1,o1,rfl,hcx⟩:=hc k x hx;have hcx:=hw.at hcx;by_cases hg:0<=x/\x<n
    . obtain ⟨d,hd⟩:∃ d,done[x.toNat]?=some d:=⟨_,Yad (show x.toNat<done.length by omega)⟩;have hdd:isDone done x=d:=(by simp [isDone,hd]);obtain ⟨b2,o2,rfl,hcx2⟩:=hcd _ d hd;have hcx2:=hw.at hcx2;have HX:=Zq hx; clear hx hc hcd;have HD:=Zq hd; clear hd;have HN:=Zq hn; clear hn;have HDD:=Zq hdd; clear hdd;obtain ⟨hg1,hg2⟩:=hg;have hdl:x<(done.length:Int):=(by have:=HN.out; omega);cases d
      . have E:=Zq (ZiJ (n:=n) HX.out ⟨hg1,hg2⟩ HDD.out);go_wp2;go_ret;exact ⟨by rw [E.out]; rfl,rfl⟩
      . have E:=Zq (ZiI (n:=n) HX.out HT.out (fun _=>HDD.out));go_wp2;go_round;(case rel=>exact ⟨k+1,by omega,by go_num,E⟩);case measure=>simp [intOf]; omega
    . have E:=Zq (ZiI (n:=n) hx HT.out (fun h=>absurd h hg));have HX:=Zq hx; clear hx hc hcd;have HN:=Zq hn; clear hn;by_cases hg1:0<=x;all_goals go_wp2;go_round;(case rel=>exact ⟨k+1,by omega,by go_num,E⟩);case measure=>simp [intOf]; omega
  . have:k=xs.length:=(by omega);subst this;go_wp2;go_ret;exact ⟨by rw [HT.out]; rfl,rfl⟩
open Go.RowKit Pal Pal.Graph

theorem ZiL {P:Program} {T e bytes:Nat} {z:Value} {i:TypeInfo} (ht:P.underlying T=some (.slice e)) (hi:P.info? e=some i) (hz0:i.zero=some z) (hz1:i.size=1) (hz2:i.bytes=bytes) (hz:z.cells=#[z]) (N:Nat) (hN:N*bytes<=281474976710656) (hN2:N<=281474976710656) (w:World) :
 (Instr.makeSlice T (.int .i64 (N:Int)) (.int .i64 (N:Int))).run P w = .ok (.slice (some ⟨w.heap.size,0,none⟩) N N) (w.alloc (.cells (madeCells #[z] N) e)):=by have:=run_make (P:=P) w T e i z ht hi hz0 .i64 .i64 N N (by omega) (Int.le_refl _) (by rw [hz2,<-Int.natCast_mul,Nat.mul_comm]; omega) (by omega);rw [this,hz1,hz];simp
theorem ZiM (n:Int) (xss:List (List Int)) (done:List Bool) (i:Nat):freeK n ((xss[i]?).getD []) done ((xss[i]?).getD []).length=freeB n xss done i:=by simp [freeK,freeB,lst]
theorem ZiN (l:List Bool) (i:Nat) (b:Bool):(l.map Value.bool).set i (.bool b)=(l.set i b).map Value.bool:=by simp [List.map_set]
def ToldPost (N:Nat) (xss:List (List Int)) (w:World) (e:Ending) (w':World):Prop :=
 ∃ v1 v2 t,e = .returned (.tuple #[v1,v2])/\Row t 2 w' 3 1 v1 (st N xss N).1.length ((st N xss N).1.map (Value.int .i64))/\Row t 1 w' 4 1 v2 N ((st N xss N).2.map Value.bool)/\Evo T0 w t w' (·≠0)
theorem ZiO (h:GH) (N:Nat) (v:Value) (xss:List (List Int)) (w:World) (hN:N<=4096) (hw:h.le (gh w)) (hx:RowsV h v xss) :
 Calls Tryz.prog 80 #[.int .i64 (N:Int),v] w (ToldPost N xss w):=by
 obtain ⟨i0,hi,hz0,hz1,hz2⟩:=ZiB;obtain ⟨i4,hi4,hy0,hy1,hy2⟩:=ZiF;have hmk:=ZiL (P:=Tryz.prog) Tryz.underlying34 hi4 hy0 hy1 hy2 rfl N (by omega) (by omega);have hR:=Row.made T0 1 w 4 (.bool false) N (by unfold maxLen; omega);go_in;go_wp2;go_loopw [7] (fun u wr=>∃ j t,Row t 1 wr 4 1 (.slice (some ⟨w.heap.size,0,none⟩) N N) N ((st N xss j).2.map Value.bool)/\Row t 2 wr 3 1 u j ((st N xss j).1.map (Value.int .i64))/\Hid ((st N xss j).1.length=j)/\Evo T0 w t wr (·≠0))
  (fun u _=>N - lenOf u)
 case atStart=>exact ⟨0,_,by simpa [st] using hR,Row.nil _ _ _ _ _,rfl,(Ybg _ _ _).alloc 1 _⟩
 case round =>
  obtain ⟨j,t,hd,ho,HL,hev⟩:=hrel;obtain ⟨wo,rfl⟩:∃ wo:World,wo=wr:=⟨_,rfl⟩;have hle:h.le (gh wo):=(by have:=hev.hz (by simp);rw [Zaf] at this;exact hw.trans (this.trans (Zae _ _)));clear hmk hR;have HM:=Zq (st_len (n:=N) (xss:=xss) j);go_wp2;go_loop [8] (fun i=>∃ k:Nat,k<=N/\i = .int .i64 k/\Hid (∀ i,i<k->may N xss (st N xss j).2 i=false)) (fun i=>N - (intOf i).toNat);(case atStart=>exact ⟨0,Nat.zero_le _,rfl,fun i hi=>by omega⟩);case round =>
   obtain ⟨k,hk,rfl,HT⟩:=hrel;by_cases hlt:k<N
   . obtain ⟨d,hdk⟩:∃ d,(st N xss j).2[k]?=some d:=⟨_,Yad (by have:=HM.out; simp at this; omega)⟩;obtain ⟨g,cap,hg,_,_,hcell,hfr⟩:=hd.get (j:=k) (x := .bool d) (by simp [hdk]);simp only [Yaq,Yai,Ybd,and_true,true_and] at hg;obtain ⟨rfl,rfl⟩:=hg;have HD:=Zq hdk; clear hdk;cases d
     . obtain ⟨b,hb⟩:∃ b,b=freeB N xss (st N xss j).2 k:=⟨_,rfl⟩;have HB:=Zq hb; clear hb;have hm:may N xss (st N xss j).2 k=b:=(by have:=HD.out;simp [may,this,HB.out]);have HMM:=Zq hm; clear hm;have hbv:=BoolsV.ofRowAny hd;cases b
       . go_wp2_with fail;refine (ZiH h _ xss k _ hle hx).mono ?_;rintro e w1 ⟨v',rfl,hiv,rfl⟩;go_wp2_with fail;refine (ZiK (gh w1) N _ _ _ (st N xss j).2 _ (GH.le.refl _) (hiv.mono hle) hbv (by have:=HM.out; simpa using this)).mono ?_;rintro e w1 ⟨rfl,rfl⟩;rw [ZiM,<-HB.out];go_wp2;go_round;case rel =>
          refine ⟨k+1,by omega,by go_num,fun i hi=>?_⟩;by_cases hik:i=k
          . rw [hik]; exact HMM.out
          . exact HT.out i (by omega)
         case measure=>simp [intOf]; omega
       . have HP:=Zq (ZfJ (n:=N) (by simpa using hlt) HMM.out HT.out);go_wp2_with fail;refine (ZiH h _ xss k _ hle hx).mono ?_;rintro e w1 ⟨v',rfl,hiv,rfl⟩;go_wp2_with fail;refine (ZiK (gh w1) N _ _ _ (st N xss j).2 _ (GH.le.refl _) (hiv.mono hle) hbv (by have:=HM.out; simpa using this)).mono ?_;rintro e w1 ⟨rfl,rfl⟩;rw [ZiM,<-HB.out];have hkn:((k:Int) == (N:Int))=false:=(by simp; omega);have hjn:=ZfO HP.out;rw [HL.out] at hjn;have hd1:=hd.set k (.bool true);rw [ZiN] at hd1;have hev1:=hev.setCell ⟨w.heap.size,k,none⟩ (.bool true) (by rw [hd.tag _ rfl]; simp);have ho1:=ho.keep ((Ybg t w1 (·=1)).setCell ⟨w.heap.size,k,none⟩ (.bool true) (hd.tag _ rfl)) (by simp);simp only [Int.toNat_natCast] at hjn;go_wp2_with (at_builtin; (refine Zac rfl _ _ 30 rfl 3 i0 (.int .i64 0) 1 8 Tryz.underlying30 hi hz0 hz1 hz2 rfl (by decide) rfl ho1 #[.int .i64 k] 3 (0,0) _ rfl (by simp) rfl ?c1 ?c2 ?c3 ?_));(case c1=>rfl);(case c2=>unfold maxLen; omega);(case c3=>omega);intro v' t' w' hr he;obtain ⟨a'',c'',rfl⟩:=ho.form;have hev2:=hev1.trans (he.mono (K':=(·≠0)) (by intro x hx; omega));have hd2:=hd1.keep he (by simp);clear hev hev1 hd hd1 ho ho1 he hbv;go_wp2;go_roundw;case rel =>
          have hs:st N xss (j+1)=((st N xss j).1++[(k:Int)],(st N xss j).2.set k true):=ZfI HP.out;refine ⟨j+1,t',?_,?_,?_,hev2⟩
          . rw [hs]; exact hd2
          . rw [hs]; simpa using hr
          . rw [hs]; have:=HL.out; show _=_; simp [this]
         case measure =>obtain ⟨a',c',hv'⟩:=hr.form;simp [hv',lenOf]; omega
     . have hm:may N xss (st N xss j).2 k=false:=(by have:=HD.out;simp [may,this]);have HMM:=Zq hm; clear hm;go_wp2;go_round;case rel =>
        refine ⟨k+1,by omega,by go_num,fun i hi=>?_⟩;by_cases hik:i=k
        . rw [hik]; exact HMM.out
        . exact HT.out i (by omega)
       case measure=>simp [intOf]; omega
   . have:k=N:=(by omega);subst this;have HP:=Zq (pick_none_iff.2 (fun i hi=>HT.out i (by simpa using hi)));have hst:=ZfP HL.out HP.out;simp only [Int.toNat_natCast] at hst;have hlen:=HL.out;have HS:=Zq hst; clear hst;clear hlen;go_wp2;go_ret2;refine ⟨_,_,t,rfl,?_,?_,hev⟩
     . rw [HS.out,HL.out]; exact ho
     . rw [HS.out]; exact hd
open Go.RowKit Pal Pal.Graph

def OrderPost (n:Int) (xss:List (List Int)) (w:World) (e:Ending) (w':World):Prop :=
 ∃ v,e = .returned (.tuple #[v,.bool (orderS n xss).2])/\IntsV (gh w') v (orderS n xss).1/\Below w.heap.size w w'
def StuckPost (n:Int) (xss:List (List Int)) (w:World) (e:Ending) (w':World):Prop :=
 ∃ v,e = .returned v/\IntsV (gh w') v (stuckS n xss)/\Below w.heap.size w w'
theorem ZiP (n:Int) (xss:List (List Int)) (j:Nat):(st n xss j).1.length<=n.toNat:=by rw [<-st_count,<-st_len (n:=n) (xss:=xss) j]; exact List.count_le_length
theorem ZiQ (h:GH):IntsV h (.slice none 0 0) []:=⟨none,0,rfl,fun _=>⟨rfl,rfl⟩,by simp,fun j x hj=>by simp at hj⟩
theorem ZiR (h:GH) (n:Int) (v:Value) (xss:List (List Int)) (w:World) (hw:h.le (gh w)) (hx:RowsV h v xss) :
 Calls Tryz.prog 56 #[.int .i64 n,v] w (OrderPost n xss w):=by
 by_cases hn:0<=n/\n<=4096
 . have hd:decide (0<=n/\n<=4096)=true:=(by simp [hn]);obtain ⟨N,rfl⟩:=Int.eq_ofNat_of_zero_le hn.1;have hN:N<=4096:=(by omega);go_in;go_wp2_with fail;refine (ZiG N _).mono ?_;rintro e w1 ⟨rfl,rfl⟩;rw [hd];go_wp2_with fail;refine (ZiO h N v xss _ hN hw hx).mono ?_;rintro e w2 ⟨v1,v2,t,rfl,hr1,hr2,hev⟩;obtain ⟨a,c,rfl⟩:=hr1.form;have hle:=ZiP N xss N;by_cases hlt:(st N xss N).1.length<N
   . have ho:orderS N xss=([],false):=(by unfold orderS; rw [if_pos hn]; simp [hlt]);have HO:=Zq ho; clear ho;go_wp2;go_ret2;exact ⟨_,by rw [HO.out]; rfl,by rw [HO.out]; exact ZiQ _,hev.toBelow (by simp)⟩
   . have ho:orderS N xss=((st N xss N).1,true):=(by unfold orderS; rw [if_pos hn]; simp [hlt]);have HO:=Zq ho; clear ho;go_wp2;go_ret2;exact ⟨_,by rw [HO.out]; rfl,by rw [HO.out]; exact IntsV.ofRowAny hr1 (by simp at hle |-; omega),hev.toBelow (by simp)⟩
 . have hd:decide (0<=n/\n<=4096)=false:=(by simp only [decide_eq_false_iff_not]; exact hn);have ho:orderS n xss=([],false):=(by simp [orderS,hn]);have HO:=Zq ho; clear ho;go_in;go_wp2_with fail;refine (ZiG n _).mono ?_;rintro e w1 ⟨rfl,rfl⟩;rw [hd];go_wp2;go_ret2;exact ⟨_,by rw [HO.out]; rfl,by rw [HO.out]; exact ZiQ _,Yab _ _⟩
theorem ZiS (h:GH) (n:Int) (v:Value) (xss:List (List Int)) (w:World) (hw:h.le (gh w)) (hx:RowsV h v xss) :
 Calls Tryz.prog 57 #[.int .i64 n,v] w (StuckPost n xss w):=by
 obtain ⟨i0,hi,hz0,hz1,hz2⟩:=ZiB;by_cases hn:0<=n/\n<=4096
 . have hd:decide (0<=n/\n<=4096)=true:=(by simp [hn]);obtain ⟨N,rfl⟩:=Int.eq_ofNat_of_zero_le hn.1;have hN:N<=4096:=(by omega);have ho:stuckS N xss=left (st N xss N).2 N:=(by unfold stuckS; rw [if_pos hn]; rfl);have HO:=Zq ho; clear ho;go_in;go_wp2_with fail;refine (ZiG N _).mono ?_;rintro e w1 ⟨rfl,rfl⟩;rw [hd];go_wp2_with fail;refine (ZiO h N v xss _ hN hw hx).mono ?_;rintro e w2 ⟨v1,v2,t,rfl,hr1,hr2,hev⟩;have HM:=Zq (st_len (n:=N) (xss:=xss) N);generalize (st N xss N).2=done at *;clear hr1;go_wp2;go_loopw [7,8] (fun u i wr=>∃ k:Nat,k<=N/\i = .int .i64 k/\∃ t,Row t 3 wr 3 1 u (left done k).length ((left done k).map (Value.int .i64))/\Row t 1 wr 4 1 v2 N (done.map Value.bool)/\Evo T0 w1 t wr (·≠0))
    (fun _ i _=>N - (intOf i).toNat)
   (case atStart=>exact ⟨0,Nat.zero_le _,rfl,t,Row.nil _ _ _ _ _,hr2,hev⟩);case round =>
    obtain ⟨k,hk,rfl,t,hr,hr2,hev⟩:=hrel;by_cases hlt:k<N
    . obtain ⟨d,hdk⟩:∃ d,done[k]?=some d:=⟨_,Yad (by have:=HM.out; simp at this; omega)⟩;obtain ⟨g,cap,rfl,_,_,hcell,hfr⟩:=hr2.get (j:=k) (x := .bool d) (by simp [hdk]);have hls:=ZfQ done k;have hgd:done.getD k false=d:=(by simp [hdk]);rw [hgd] at hls;have HD:=Zq hdk; clear hdk hgd;have hll:=ZfR done k;cases d
      . have HLS:=Zq hls; clear hls;go_wp2_with (at_builtin; refine Zac rfl _ _ 30 rfl 3 i0 (.int .i64 0) 1 8 Tryz.underlying30 hi hz0 hz1 hz2 rfl (by decide) rfl hr #[.int .i64 k] 3 (0,0) _ rfl (by simp) rfl ?c1 ?c2 ?c3 ?_);(case c1=>rfl);(case c2=>unfold maxLen; omega);(case c3=>omega);intro v' t' w' hr3 he;have hev2:=hev.trans (he.mono (K':=(·≠0)) (by intro x hx; omega));have hd2:=hr2.keep he (by simp);clear hev hr hr2 he;go_wp2;go_roundw;(case rel =>refine ⟨k+1,by omega,by go_num,t',?_,hd2,hev2⟩;rw [HLS.out]; simpa using hr3);case measure=>simp [intOf]; omega
      . have HLS:=Zq hls; clear hls;go_wp2;go_roundw;(case rel =>refine ⟨k+1,by omega,by go_num,t,?_,hr2,hev⟩;rw [HLS.out]; simpa using hr);case measure=>simp [intOf]; omega
    . have:k=N:=(by omega);subst this;go_wp2;go_ret;exact ⟨_,rfl,by rw [HO.out]; exact IntsV.ofRowAny hr (by have:=ZfR done k; omega),hev.toBelow (by simp)⟩
 . have hd:decide (0<=n/\n<=4096)=false:=(by simp only [decide_eq_false_iff_not]; exact hn);have ho:stuckS n xss=[]:=(by simp [stuckS,hn]);have HO:=Zq ho; clear ho;go_in;go_wp2_with fail;refine (ZiG n _).mono ?_;rintro e w1 ⟨rfl,rfl⟩;rw [hd];go_wp2;go_ret;exact ⟨_,rfl,by rw [HO.out]; exact ZiQ _,Yab _ _⟩
open Go.RowKit Pal Pal.Graph

def sl (g N:Nat):Value := .slice (some ⟨g,0,none⟩) N N
def tabI (N:Nat) (f:Nat->Int):List Value:=(List.range N).map fun i=>Value.int .i64 (f i)
theorem ZiT {N:Nat} {f:Nat->Int} {i:Nat} (h:i<N):(tabI N f)[i]?=some (.int .i64 (f i)):=by simp [tabI,h]
theorem ZiU {N:Nat} {f g:Nat->Int} (h:∀ i,i<N->f i=g i):tabI N f=tabI N g:=List.map_congr_left fun i hi=>by rw [h i (List.mem_range.1 hi)]
theorem ZiV (N:Nat) (f:Nat->Int) (i:Nat) (v:Int):(tabI N f).set i (.int .i64 v)=tabI N (fun x=>if x=i then v else f x):=by
 apply List.ext_getElem?;intro j;simp only [tabI,List.getElem?_set,Yax,Ybf,List.length_range];by_cases e:i=j
 . subst e;by_cases h:i<N
   . simp [h]
   . simp [h]
 . have:¬ j=i:=fun h=>e h.symm;by_cases h:j<N
   . simp [e,h,this]
   . simp [e,h]
theorem ZiW (N:Nat):List.replicate N (Value.int .i64 0)=tabI N (fun _=>0):=by apply List.ext_getElem?;intro j;simp only [tabI,List.getElem?_replicate,Yax];by_cases h:j<N<;>simp [h]
structure BackSt (t:Tag) (w:World) (g:Nat) (bs:List Value) (B:List (List Int)) (N:Nat):Prop where
 row:Row t 4 w 30 1 (sl g N) N bs
 len:B.length=N
 inner:∀ (k:Nat) (u:Value) (l:List Int),bs[k]?=some u->B[k]?=some l->Row t (10+k) w 3 1 u l.length (l.map (Value.int .i64))
theorem BackSt.keep {t t':Tag} {w w':World} {g:Nat} {bs:List Value} {B:List (List Int)} {N:Nat} {K:Nat->Prop} (h:BackSt t w g bs B N) (ev:Evo t w t' w' K) (hk4:¬ K 4) (hk:∀ k,¬ K (10+k)):BackSt t' w' g bs B N :=
 ⟨h.row.keep ev hk4,h.len,fun k u l h1 h2=>(h.inner k u l h1 h2).keep ev (hk k)⟩
theorem BackSt.blen {t:Tag} {w:World} {g:Nat} {bs:List Value} {B:List (List Int)} {N:Nat} (h:BackSt t w g bs B N):bs.length=N:=by have:=h.row.len; omega
theorem BackSt.push {t t':Tag} {w w':World} {g:Nat} {bs:List Value} {B:List (List Int)} {N:Nat} (h:BackSt t w g bs B N) {k:Nat} {u v:Value} {l l':List Int} (hu:bs[k]?=some u) (hl:B[k]?=some l)
 (hr:Row t' (10+k) w' 3 1 v l'.length (l'.map (Value.int .i64))) (ev:Evo t w t' w' (·=10+k)):BackSt t' (w'.setCell ⟨g,k,none⟩ v) g (bs.set k v) (B.set k l') N:=by
 have hkb:k<bs.length:=(Yag.1 hu).1;have hkB:k<B.length:=(Yag.1 hl).1;have h1:=h.row.keep ev (by omega);have htg:t' g=4:=h1.tag g rfl;have ev2:Evo t' w' t' (w'.setCell ⟨g,k,none⟩ v) (·=4):=(Ybg _ _ _).setCell _ _ htg;refine ⟨h1.set k v,by simpa using h.len,fun j x y hx hy=>?_⟩;by_cases e:j=k
 . subst e;rw [List.getElem?_set_self hkb] at hx;rw [List.getElem?_set_self hkB] at hy;cases hx; cases hy;exact hr.keep ev2 (by omega)
 . rw [List.getElem?_set_ne (by omega)] at hx hy;exact ((h.inner j x y hx hy).keep ev (by omega)).keep ev2 (by omega)
theorem BackSt.start {t:Tag} {w:World} {g N:Nat} (h:Row t 4 w 30 1 (sl g N) N (List.replicate N (.slice none 0 0))):BackSt t w g (List.replicate N (.slice none 0 0)) (List.replicate N []) N :=
 ⟨h,by simp,fun k u l h1 h2=>by
  rw [List.getElem?_replicate] at h1 h2
  split at h1
  . rename_i hk
    rw [if_pos hk] at h2
    cases h1; cases h2
    exact Row.nil _ _ _ _ _
  . cases h1⟩
structure Ph1 (w:World) (N:Nat) (xss:List (List Int)) (t:Tag) (wr:World) (bs:List Value) (B:List (List Int)) (I j:Nat):Prop where
 wants:Row t 3 wr 3 1 (sl w.heap.size N) N (tabI N (cntW N xss I j))
 back:BackSt t wr (w.heap.size+1) bs B N
 ok:BackOk N xss B I j
 told:Row t 1 wr 4 1 (sl (w.heap.size+2) N) N ((List.replicate N false).map Value.bool)
 ev:Evo T0 w t wr (·≠0)
theorem ZiX (w:World) (N:Nat) (xss:List (List Int)) (hN:N<=4096) :
 ∃ t,Ph1 w N xss t (((w.alloc (.cells (madeCells #[.int .i64 0] N) 3)).alloc (.cells (madeCells #[.slice none 0 0] N) 30)).alloc (.cells (madeCells #[.bool false] N) 4)) (List.replicate N (.slice none 0 0)) (List.replicate N []) 0 0:=by
 have e1:Evo T0 w (T0.set w.heap.size 3) (w.alloc (.cells (madeCells #[.int .i64 0] N) 3)) (·≠0):=(Ybg _ _ _).alloc 3 _;have r1:=Row.made T0 3 w 3 (.int .i64 0) N (by unfold maxLen; omega);have s1:(w.alloc (.cells (madeCells #[.int .i64 0] N) 3)).heap.size=w.heap.size+1:=by simp
 generalize w.alloc (.cells (madeCells #[.int .i64 0] N) 3)=w1 at *;generalize T0.set w.heap.size 3=t1 at *;have e2:Evo t1 w1 (t1.set w1.heap.size 4) (w1.alloc (.cells (madeCells #[.slice none 0 0] N) 30)) (fun _=>False):=(Ybg _ _ _).alloc 4 _;have r2:=Row.made t1 4 w1 30 (.slice none 0 0) N (by unfold maxLen; omega);have s2:(w1.alloc (.cells (madeCells #[.slice none 0 0] N) 30)).heap.size=w1.heap.size+1:=by simp
 generalize w1.alloc (.cells (madeCells #[.slice none 0 0] N) 30)=w2 at *;generalize t1.set w1.heap.size 4=t2 at *;have e3:Evo t2 w2 (t2.set w2.heap.size 1) (w2.alloc (.cells (madeCells #[.bool false] N) 4)) (fun _=>False):=(Ybg _ _ _).alloc 1 _;have r3:=Row.made t2 1 w2 4 (.bool false) N (by unfold maxLen; omega);refine ⟨t2.set w2.heap.size 1,?_,?_,ZfU N xss,?_,(e1.trans (e2.mono fun _ h=>h.elim)).trans (e3.mono fun _ h=>h.elim)⟩
 . have:=(r1.keep e2 id).keep e3 id;rw [ZiW] at this;rw [ZiU (g:=fun _=>0) (fun i _=>by simp [cntW])];exact this
 . have:=r2.keep e3 id;rw [s1] at this;exact BackSt.start this
 . rw [s2,s1] at r3;simp only [List.map_replicate];rw [s2,s1];exact r3
structure Ph2 (w:World) (N:Nat) (xss:List (List Int)) (t:Tag) (wr:World) (bs:List Value) (B:List (List Int)) (u:Value) (j:Nat):Prop where
 wants:Row t 3 wr 3 1 (sl w.heap.size N) N (tabI N (g_need N xss (st N xss j).2))
 back:BackSt t wr (w.heap.size+1) bs B N
 ok:BackOk N xss B N 0
 told:Row t 1 wr 4 1 (sl (w.heap.size+2) N) N ((st N xss j).2.map Value.bool)
 out:Row t 2 wr 3 1 u j ((st N xss j).1.map (Value.int .i64))
 len:(st N xss j).1.length=j
 ev:Evo T0 w t wr (·≠0)
theorem ZiY {w:World} {N:Nat} {xss:List (List Int)} {t:Tag} {wr:World} {bs:List Value} {B:List (List Int)} (h:Ph1 w N xss t wr bs B N 0):Ph2 w N xss t wr bs B (.slice none 0 0) 0:=by
 refine ⟨?_,h.back,h.ok,?_,Row.nil _ _ _ _ _,rfl,h.ev⟩
 . rw [ZiU (g:=cntW N xss N 0) (fun i hi=>?_)]
   . exact h.wants
   . simp only [st,Int.toNat_natCast,Zf0,cntW,if_pos hi]
 . simpa [st] using h.told
theorem ZiZ {w:World} {N:Nat} {xss:List (List Int)} {t t1:Tag} {wr w1:World} {bs:List Value} {B:List (List Int)} {I j:Nat} (h:Ph1 w N xss t wr bs B I j) (ev:Evo t wr t1 w1 (fun _=>False)):Ph1 w N xss t1 w1 bs B I j :=
 ⟨h.wants.keep ev id,h.back.keep ev id (fun _=>id),h.ok,h.told.keep ev id,h.ev.trans (ev.mono fun _ h=>h.elim)⟩
theorem Zi0 {w:World} {N:Nat} {xss:List (List Int)} {t:Tag} {wr:World} {bs:List Value} {B:List (List Int)} {I j:Nat} (h:Ph1 w N xss t wr bs B I j) :
 Row t 3 (wr.setCell ⟨w.heap.size,I,none⟩ (.int .i64 (cntW N xss I j I+1))) 3 1 (sl w.heap.size N) N (tabI N (cntW N xss I (j+1)))/\Evo t wr t (wr.setCell ⟨w.heap.size,I,none⟩ (.int .i64 (cntW N xss I j I+1))) (·=3):=by have h1:=h.wants.set I (.int .i64 (cntW N xss I j I+1));rw [ZiV] at h1;rw [ZiU (g:=cntW N xss I (j+1)) (fun i _=>ZfY _ _ _ _ _)] at h1;exact ⟨h1,(Ybg _ _ _).setCell _ _ (h.wants.tag _ rfl)⟩
theorem Zi1 {N:Nat} {xss:List (List Int)} {j k:Nat} (h:pick N xss (st N xss j).2=some k):st N xss (j+1)=((st N xss j).1++[(k:Int)],(st N xss j).2.set k true):=ZfI h
def P5f (N:Nat) (xss:List (List Int)) (B:List (List Int)) (j k m:Nat) (i:Nat):Int:=g_need N xss (st N xss j).2 i - (((B[k]?).getD []).take m).count (i:Int)
structure Ph5 (w:World) (N:Nat) (xss:List (List Int)) (t:Tag) (wr:World) (bs:List Value) (B:List (List Int)) (u:Value) (j k m:Nat):Prop where
 wants:Row t 3 wr 3 1 (sl w.heap.size N) N (tabI N (P5f N xss B j k m))
 back:BackSt t wr (w.heap.size+1) bs B N
 ok:BackOk N xss B N 0
 told:Row t 1 wr 4 1 (sl (w.heap.size+2) N) N ((st N xss (j+1)).2.map Value.bool)
 out:Row t 2 wr 3 1 u (j+1) ((st N xss (j+1)).1.map (Value.int .i64))
 ev:Evo T0 w t wr (·≠0)
theorem Zi2 {N:Nat} {xss:List (List Int)} {B:List (List Int)} {j k:Nat} {l:List Int} (hok:BackOk N xss B N 0) (hl:B[k]?=some l) (hp:pick N xss (st N xss j).2=some k) {i:Nat} (hi:i<N) :
 P5f N xss B j k l.length i=g_need N xss (st N xss (j+1)).2 i:=by obtain ⟨h1,h2,_⟩:=ZfK hp;simp only [may,Bool.and_eq_true,Bool.not_eq_true'] at h2;rw [Zi1 hp];simp only;rw [<-Zf3 (by rw [st_len]; exact h1) h2.1];unfold P5f;rw [hl];simp only [Option.getD_some,List.take_length];rw [hok.count k l hl i];simp [cntB,hi]
theorem Zi3 {w:World} {N:Nat} {xss:List (List Int)} {t:Tag} {wr:World} {bs:List Value} {B:List (List Int)} {u:Value} {j k m:Nat} (h:Ph5 w N xss t wr bs B u j k m) {l:List Int} {x:Int} (hl:B[k]?=some l) (hx:l[m]?=some x) (h0:0<=x) :
 Ph5 w N xss t (wr.setCell ⟨w.heap.size,x.toNat,none⟩ (.int .i64 (P5f N xss B j k m x.toNat - 1))) bs B u j k (m+1):=by
 have E:Evo t wr t (wr.setCell ⟨w.heap.size,x.toNat,none⟩ (.int .i64 (P5f N xss B j k m x.toNat - 1))) (·=3):=(Ybg _ _ _).setCell _ _ (h.wants.tag _ rfl);refine ⟨?_,h.back.keep E (by omega) (fun k=>by omega),h.ok,h.told.keep E (by omega),h.out.keep E (by omega),h.ev.trans (E.mono (K':=(·≠0)) (fun x hx=>by omega))⟩;have h1:=h.wants.set x.toNat (.int .i64 (P5f N xss B j k m x.toNat - 1));rw [ZiV] at h1;rw [ZiU (g:=P5f N xss B j k (m+1)) (fun i _=>?_)] at h1
 . exact h1
 . unfold P5f;rw [hl];simp only [Option.getD_some];have ht:l.take (m+1)=l.take m++[x]:=(by rw [List.take_add_one,hx]; rfl);rw [ht,List.count_append];have hxx:x=((x.toNat:Nat):Int):=(by omega);by_cases e:i=x.toNat
   . rw [if_pos e,e,<-hxx]; simp; omega
   . rw [if_neg e];have:¬ x=(i:Int):=(by omega);simp [this]
theorem Zi4 (h:GH) (N:Nat) (v:Value) (xss:List (List Int)) (w:World) (hN:N<=100) (hS:∀ (i:Nat) (xs:List Int),xss[i]?=some xs->xs.length<=80) (hw:h.le (gh w)) (hx:RowsV h v xss) :
 Calls Tryz.prog 71 #[.int .i64 (N:Int),v] w (ToldPost N xss w):=by
 obtain ⟨i0,hi,hz0,hz1,hz2⟩:=ZiB;obtain ⟨i4,hi4,hy0,hy1,hy2⟩:=ZiF;obtain ⟨i26,hi26,hx0,hx1,hx2⟩:=ZiC;have hmk:=ZiL (P:=Tryz.prog) Tryz.underlying34 hi4 hy0 hy1 hy2 rfl N (by omega) (by omega);have hmk3:=ZiL (P:=Tryz.prog) Tryz.underlying30 hi hz0 hz1 hz2 rfl N (by omega) (by omega);have hmk26:=ZiL (P:=Tryz.prog) Tryz.underlying39 hi26 hx0 hx1 hx2 rfl N (by omega) (by omega);obtain ⟨t,P0⟩:=ZiX w N xss (by omega);have HS:=Zq hS; clear hS;go_in;go_wp2;go_step3;go_wp2;clear hmk hmk3 hmk26;go_loopg [23] N (fun g i wr=>∃ I t bs B,I+g=N/\i = .int .i64 (I:Nat)/\Ph1 w N xss t wr bs B I 0);case atStart=>exact ⟨0,t,_,_,by omega,rfl,P0⟩
 case round =>
  obtain ⟨I,t,bs,B,hIg,rfl,P⟩:=hrel;obtain ⟨wo,rfl⟩:∃ wo:World,wo=wr:=⟨_,rfl⟩;cases gk with
  | zero =>
   have hIN:I=N:=(by omega);subst hIN;have P2:=ZiY P;clear P P0;go_wp2;go_step3;go_wp2;go_loopg [12,54] I (fun g u i wr=>∃ j t bs B,j+g=I/\i = .int .i64 (j:Nat)/\Ph2 w I xss t wr bs B u j);(case atStart=>exact ⟨0,t,bs,B,by omega,rfl,P2⟩);case round =>
    clear P2;obtain ⟨j,t,bs,B,hjg,rfl,P⟩:=hrel;obtain ⟨la,lc,rfl⟩:=P.out.form;obtain ⟨w2,rfl⟩:∃ w2:World,w2=wr:=⟨_,rfl⟩;cases gk with
    | zero =>have hjN:j=I:=(by omega);subst hjN;go_wp2;rw [Yae];go_ret2;have hlen:=P.len;exact ⟨_,_,t,rfl,by rw [hlen]; exact P.out,P.told,P.ev⟩
    | succ g1 =>
     have hjlt:j<I:=(by omega);have HM:=Zq (st_len (n:=I) (xss:=xss) j);go_wp2;go_loopg [12,57] I (fun g u i wr=>∃ k,k+g=I/\i = .int .i64 (k:Nat)/\u = .slice la j lc/\wr=w2/\Hid (∀ i,i<k->may I xss (st I xss j).2 i=false));(case atStart=>exact ⟨0,by omega,rfl,rfl,rfl,fun i hi=>by omega⟩);case round =>
      obtain ⟨k,hkg,rfl,rfl,rfl,HT⟩:=hrel;cases gk with
      | zero =>
       have hkI:k=I:=(by omega);subst hkI;have HP:=Zq (pick_none_iff.2 (fun i hi=>HT.out i (by simpa using hi)));have hst:=ZfP P.len HP.out;simp only [Int.toNat_natCast] at hst;have HS2:=Zq hst; clear hst;go_wp2;rw [Yae];go_ret2;refine ⟨_,_,t,rfl,?_,?_,P.ev⟩
       . rw [HS2.out,P.len]; exact P.out
       . rw [HS2.out]; exact P.told
      | succ g2 =>
       have hkI:k<I:=(by omega);obtain ⟨d,hdk⟩:∃ d,(st I xss j).2[k]?=some d:=⟨_,Yad (by have:=HM.out; simp at this; omega)⟩;obtain ⟨g,cap,hg,_,_,hcell,_⟩:=P.told.get (j:=k) (x := .bool d) (by simp [hdk]);simp only [sl,Yaq,Yai,Ybd,and_true,true_and] at hg;obtain ⟨rfl,rfl⟩:=hg;obtain ⟨g,cap,hg,_,_,hcell3,_⟩:=P.wants.get (ZiT hkI);simp only [sl,Yaq,Yai,Ybd,and_true,true_and] at hg;obtain ⟨rfl,rfl⟩:=hg;obtain ⟨nd,hnd⟩:∃ nd,nd=g_need I xss (st I xss j).2 k:=⟨_,rfl⟩;rw [<-hnd] at hcell3;have hgd:(st I xss j).2.getD k false=d:=(by simp [hdk]);have hmay:may I xss (st I xss j).2 k=(!d&&decide (nd<=0)):=by
        unfold may;rw [hgd,hnd];congr 1;by_cases hf:freeB I xss (st I xss j).2 k=true
        . rw [hf]; simp [need_zero.2 hf]
        . simp only [Bool.not_eq_true] at hf;rw [hf];symm;rw [decide_eq_false_iff_not];intro hh;rw [need_zero.1 hh] at hf;cases hf
       have HD:=Zq hdk; clear hdk hgd;have HND:=Zq hnd; clear hnd;have HMAY:=Zq hmay; clear hmay;cases d
       . by_cases hpos:0<nd
         . have HF:Hid (may I xss (st I xss j).2 k=false):=(by have:=HMAY.out;simp only [Bool.not_false,Bool.true_and] at this;rw [Yaj (by omega)] at this;exact this);go_wp2;go_roundg g2;(case measure=>omega);case rel =>
            refine ⟨k+1,by omega,by go_num,rfl,rfl,fun i hi=>?_⟩;by_cases hik:i=k
            . rw [hik]; exact HF.out
            . exact HT.out i (by omega)
         . have HF:Hid (may I xss (st I xss j).2 k=true):=(by have:=HMAY.out;simp only [Bool.not_false,Bool.true_and] at this;rw [Yam (by omega)] at this;exact this);have HP:=Zq (ZfJ (n:=I) (by simpa using hkI) HF.out HT.out);have T1:=P.told.set k (.bool true);rw [ZiN] at T1;have E1:Evo t wr t (wr.setCell ⟨w.heap.size+2,k,none⟩ (.bool true)) (·=1):=(Ybg _ _ _).setCell _ _ (P.told.tag _ rfl);have O1:=P.out.keep E1 (by omega);have W1:=P.wants.keep E1 (by omega);have B1:=P.back.keep E1 (by omega) (fun k=>by omega);have V1:=P.ev.trans (E1.mono (K':=(·≠0)) (fun x hx=>by omega));clear E1;have hJ:=P.len;have HJ:=Zq hJ; clear hJ;have hok:=P.ok;clear P;go_wp2_with (at_builtin; refine Zac rfl _ _ 30 rfl 3 i0 (.int .i64 0) 1 8 Tryz.underlying30 hi hz0 hz1 hz2 rfl (by decide) rfl O1 #[.int .i64 k] 3 (0,0) _ rfl (by simp) rfl ?c1 ?c2 ?c3 ?_);(case c1=>rfl);(case c2=>unfold maxLen; omega);(case c3=>omega);intro v' t' w' hr3 he;have hd1:=(Zi1 HP.out);have P5:Ph5 w I xss t' w' bs B v' j k 0:=by
            refine ⟨?_,B1.keep he (by omega) (fun k=>by omega),hok,?_,?_,V1.trans (he.mono (K':=(·≠0)) (fun x hx=>by omega))⟩
            . rw [ZiU (g:=g_need I xss (st I xss j).2) (fun i hi=>by unfold P5f; simp)];exact W1.keep he (by omega)
            . rw [hd1]; exact T1.keep he (by omega)
            . rw [hd1]; simpa using hr3
           obtain ⟨l,hl⟩:∃ l,B[k]?=some l:=⟨_,Yad (by rw [B1.len]; exact hkI)⟩;obtain ⟨u,hu⟩:∃ u,bs[k]?=some u:=⟨_,Yad (by rw [B1.blen]; exact hkI)⟩;obtain ⟨va,vc,rfl⟩:=hr3.form;clear he hr3 W1 T1 O1 B1 V1 hcell hcell3;obtain ⟨g,cap,hg,_,_,hcb,_⟩:=P5.back.row.get hu;simp only [sl,Yaq,Yai,Ybd,and_true,true_and] at hg;obtain ⟨rfl,rfl⟩:=hg;obtain ⟨ua,uc,rfl⟩:=(P5.back.inner k u l hu hl).form;have hsh:=hok.short k l hl;have HLL:=Zq hl; clear hl;have HU:=Zq hu; clear hu;have HD1:=Zq hd1; clear hd1;go_wp2;go_loopg [83] l.length (fun g i wr=>∃ m t,m+g=l.length/\i = .int .i64 (m:Nat)/\Ph5 w I xss t wr bs B (.slice va (j+1) vc) j k m);(case atStart=>exact ⟨0,t',by omega,rfl,P5⟩);case round =>
            clear P5 hcb;obtain ⟨m,t,hmg,rfl,P⟩:=hrel;obtain ⟨w4,rfl⟩:∃ w4:World,w4=wr:=⟨_,rfl⟩;cases gk with
            | zero =>
             have hml:m=l.length:=(by omega);subst hml;go_wp2;go_roundg g1;(case measure=>omega);case rel =>
              refine ⟨j+1,t,bs,B,by omega,by go_num,?_,P.back,P.ok,P.told,P.out,?_,P.ev⟩
              . have:=P.wants;rw [ZiU (fun i hi=>Zi2 hok HLL.out HP.out hi)] at this;exact this
              . rw [ZfN HP.out,HJ.out]
            | succ g5 =>have hml:m<l.length:=(by omega);obtain ⟨x,hxm⟩:∃ x,l[m]?=some x:=⟨_,Yad hml⟩;obtain ⟨hx0,hxN⟩:=hok.range k l HLL.out x (Yay hxm);have RL:=P.back.inner k _ l HU.out HLL.out;obtain ⟨gl,cl,hgl,_,_,hcl,_⟩:=RL.get (j:=m) (x := .int .i64 x) (by simp [hxm]);simp only [Yaq,true_and] at hgl;obtain ⟨rfl,rfl⟩:=hgl;have hxk:x.toNat<I:=(by omega);obtain ⟨g,cap,hg,_,_,hcw,hfw⟩:=P.wants.get (ZiT hxk);simp only [sl,Yaq,Yai,Ybd,and_true,true_and] at hg;obtain ⟨rfl,rfl⟩:=hg;have PN:=Zi3 P HLL.out hxm hx0;obtain ⟨cw,hcwe⟩:∃ cw,cw=P5f I xss B j k m x.toNat:=⟨_,rfl⟩;rw [<-hcwe] at PN;have hcw':w4.cell? ⟨w.heap.size,x.toNat,none⟩=some (.int .i64 cw):=(by rw [hcwe]; exact hcw);have hcwb : -8100<=cw/\cw<=80:=(by have h1:=Zf1 (n:=I) (xss:=xss) (done:=(st I xss j).2) (ZfT HS.out x.toNat);have h2:((((B[k]?).getD []).take m).count (x.toNat:Int))<=8080:=Nat.le_trans List.count_le_length (Nat.le_trans (List.length_take_le _ _) (by omega));rw [hcwe]; unfold P5f;omega);obtain ⟨hcw0,hcw1⟩:=hcwb;have HX:=Zq hxm; clear hxm;have HCW:=Zq hcwe; clear hcwe hcw RL P;go_wp2;go_roundg g5;(case measure=>omega);case rel=>exact ⟨m+1,t,by omega,by go_num,PN⟩
       . have HF:Hid (may I xss (st I xss j).2 k=false):=(by have:=HMAY.out;simp only [Bool.not_true,Bool.false_and] at this;exact this);go_wp2;go_roundg g2;(case measure=>omega);case rel =>
          refine ⟨k+1,by omega,by go_num,rfl,rfl,fun i hi=>?_⟩;by_cases hik:i=k
          . rw [hik]; exact HF.out
          . exact HT.out i (by omega)
  | succ g1 =>
   have hlt:I<N:=(by omega);have hle:h.le (gh wo):=(by have:=P.ev.hz (by simp);rw [Zaf] at this;exact hw.trans (this.trans (Zae _ _)));go_wp2_with fail;refine (ZiD h N _ xss I _ hle hx).mono ?_;rintro e w1 ⟨v',rfl,ho,hb⟩;obtain ⟨t1,hr1,he1⟩:=Row.ofOwn t 5 (fun _=>False) hb ho;have P1:=ZiZ P he1;clear P he1 ho hb;obtain ⟨a,c,rfl⟩:=hr1.form;have hls:=ZfT (n:=(N:Int)) HS.out I;have hlm:∀ x∈lst N xss I,0<=x/\x<(N:Int):=fun x hx=>ZfS hx;obtain ⟨L,hL⟩:∃ L,L=lst (N:Int) xss I:=⟨_,rfl⟩;rw [<-hL] at hls hlm hr1;rw [<-hL];have HL:=Zq hL; clear hL;have HLM:=Zq hlm; clear hlm;go_wp2;go_loopg [31] L.length (fun g i wr=>∃ j t bs B,j+g=L.length/\i = .int .i64 (j:Nat)/\Ph1 w N xss t wr bs B I j/\Row t 5 wr 3 1 (.slice a L.length c) L.length (L.map (Value.int .i64)));(case atStart=>exact ⟨0,t1,bs,B,by omega,rfl,P1,hr1⟩);case round =>
    clear P1 hr1 P0;obtain ⟨j,t,bs,B,hjg,rfl,P,hr⟩:=hrel;obtain ⟨w2,rfl⟩:∃ w2:World,w2=wr:=⟨_,rfl⟩;cases gk with
    | zero =>
     have hjl:j=L.length:=(by omega);subst hjl;go_wp2;go_roundg g1;(case measure=>omega);case rel =>
      refine ⟨I+1,t,bs,B,by omega,by go_num,?_,P.back,?_,P.told,P.ev⟩
      . have:=P.wants;rw [HL.out,ZiU (fun i _=>ZfX N xss I i)] at this;exact this
      . have:=P.ok;rw [HL.out] at this;exact ZfW this (by rw [<-HL.out]; exact hls)
    | succ g2 =>
     have hjl:j<L.length:=(by omega);obtain ⟨x,hxj⟩:∃ x,L[j]?=some x:=⟨_,Yad hjl⟩;obtain ⟨hx0,hxN⟩:=HLM.out x (Yay hxj);obtain ⟨gl,cl,hgl,_,_,hcl,_⟩:=hr.get (j:=j) (x := .int .i64 x) (by simp [hxj]);simp only [Yaq,true_and] at hgl;obtain ⟨rfl,rfl⟩:=hgl;obtain ⟨g,cap,hg,_,_,hcw,hfw⟩:=P.wants.get (ZiT hlt);simp only [sl,Yaq,Yai,Ybd,and_true,true_and] at hg;obtain ⟨rfl,rfl⟩:=hg;obtain ⟨cw,hcwe⟩:∃ cw,cw=cntW N xss I j I:=⟨_,rfl⟩;have hcwj:cw=j:=(by rw [hcwe]; simp [cntW]);have hcwb:0<=cw/\cw<=80:=(by omega);obtain ⟨hcw0,hcw1⟩:=hcwb;rw [<-hcwe] at hcw;have S1:=Zi0 P;rw [<-hcwe] at S1;have HCW:=Zq hcwe; clear hcwe hcwj;have hxk:x.toNat<N:=(by omega);obtain ⟨u,hu⟩:∃ u,bs[x.toNat]?=some u:=⟨_,Yad (by rw [P.back.blen]; exact hxk)⟩;obtain ⟨l,hl⟩:∃ l,B[x.toNat]?=some l:=⟨_,Yad (by rw [P.back.len]; exact hxk)⟩;have B1:=P.back.keep S1.2 (by omega) (fun k=>by omega);obtain ⟨g,cap,hg,_,_,hcb,hfb⟩:=B1.row.get hu;simp only [sl,Yaq,Yai,Ybd,and_true,true_and] at hg;obtain ⟨rfl,rfl⟩:=hg;have R1:=B1.inner _ u l hu hl;obtain ⟨ua,uc,rfl⟩:=R1.form;have hsh:=P.ok.short _ l hl;have HX:=Zq hxj; clear hxj;have HU:=Zq hu; clear hu;have HLL:=Zq hl; clear hl;go_wp2_with (at_builtin; refine Zac rfl _ _ 30 rfl 3 i0 (.int .i64 0) 1 8 Tryz.underlying30 hi hz0 hz1 hz2 rfl (by decide) rfl R1 #[.int .i64 I] 3 (0,0) _ rfl (by simp) rfl ?c1 ?c2 ?c3 ?_);(case c1=>rfl);(case c2=>unfold maxLen; omega);(case c3=>omega);intro v' t' w' hr3 he;have B2:=B1.push HU.out HLL.out (l':=l++[(I:Int)]) (by simpa using hr3) he;have htg:t' (w.heap.size+1)=4:=(by rw [he.tag _ (B1.row.own.lt _ rfl).2]; exact B1.row.tag _ rfl);have E2:Evo t' w' t' (w'.setCell ⟨w.heap.size+1,x.toNat,none⟩ v') (·=4):=(Ybg _ _ _).setCell _ _ htg;have hcb2:=he.cell (by rw [B1.row.tag _ rfl]; omega) hcb;have hfb2:w'.frozen? ⟨w.heap.size+1,x.toNat,none⟩=false:=(by obtain ⟨g,cap,hg,_,_,_,hf⟩:=(B1.row.keep he (by omega)).get HU.out;simp only [sl,Yaq,Yai,Ybd,and_true,true_and] at hg;rw [<-hg.1] at hf; exact hf);have PN:Ph1 w N xss t' (w'.setCell ⟨w.heap.size+1,x.toNat,none⟩ v') (bs.set x.toNat v') (B.set x.toNat (l++[(I:Int)])) I (j+1):=by
      refine ⟨(S1.1.keep he (by omega)).keep E2 (by omega),B2,ZfZ P.ok hlt (by rw [<-HL.out]; exact HX.out) HLL.out,?_,?_⟩
      . exact ((P.told.keep S1.2 (by omega)).keep he (by omega)).keep E2 (by omega)
      . exact ((P.ev.trans (S1.2.mono (K':=(·≠0)) (fun x hx=>by omega))).trans (he.mono (K':=(·≠0)) (fun x hx=>by omega))).trans (E2.mono (K':=(·≠0)) (fun x hx=>by omega))
     have RN:=((hr.keep S1.2 (by omega)).keep he (by omega)).keep E2 (by omega);obtain ⟨va,vc,rfl⟩:=hr3.form;clear P hr S1 B1 R1 hr3 he B2 E2 hcb hcw hcl;go_wp2;go_roundg g2;(case measure=>omega);case rel=>exact ⟨j+1,t',_,_,by omega,by go_num,PN,RN⟩
open Go.RowKit Pal Pal.Graph

theorem Zi5 (h:GH) (n:Int) (v:Value) (xss:List (List Int)) (w:World) (hw:h.le (gh w)) (hx:RowsV h v xss) (hF:0<=n->n<=4096->n<=100/\∀ (i:Nat) (xs:List Int),xss[i]?=some xs->xs.length<=80) :
 Calls Tryz.prog 51 #[.int .i64 n,v] w (OrderPost n xss w):=by
 by_cases hn:0<=n/\n<=4096
 . have hd:decide (0<=n/\n<=4096)=true:=(by simp [hn]);obtain ⟨N,rfl⟩:=Int.eq_ofNat_of_zero_le hn.1;have hN:N<=4096:=(by omega);go_in;obtain ⟨hF1,hF2⟩:=hF hn.1 hn.2;clear hF hn hd;have hF3:N<=100:=(by omega);clear hF1;go_wp2_with fail;refine (Zi4 h N v xss _ hF3 hF2 hw hx).mono ?_;rintro e w2 ⟨v1,v2,t,rfl,hr1,hr2,hev⟩;obtain ⟨a,c,rfl⟩:=hr1.form;have hle:=ZiP N xss N;by_cases hlt:(st N xss N).1.length<N
   . have ho:orderS N xss=([],false):=(by unfold orderS; rw [if_pos (by omega)]; simp [hlt]);have HO:=Zq ho; clear ho;go_wp2;go_ret2;exact ⟨_,by rw [HO.out]; rfl,by rw [HO.out]; exact ZiQ _,hev.toBelow (by simp)⟩
   . have ho:orderS N xss=((st N xss N).1,true):=(by unfold orderS; rw [if_pos (by omega)]; simp [hlt]);have HO:=Zq ho; clear ho;go_wp2;go_ret2;exact ⟨_,by rw [HO.out]; rfl,by rw [HO.out]; exact IntsV.ofRowAny hr1 (by simp at hle |-; omega),hev.toBelow (by simp)⟩
 . have ho:orderS n xss=([],false):=(by simp [orderS,hn]);have HO:=Zq ho; clear ho;clear hF;by_cases h0:n<0;all_goals have h1:n<0\/4096<n:=(by omega);go_in;go_wp2;go_ret2;exact ⟨_,by rw [HO.out]; rfl,by rw [HO.out]; exact ZiQ _,Yab _ _⟩
theorem Zi6 (h:GH) (n:Int) (v:Value) (xss:List (List Int)) (w:World) (hw:h.le (gh w)) (hx:RowsV h v xss) (hF:0<=n->n<=4096->n<=100/\∀ (i:Nat) (xs:List Int),xss[i]?=some xs->xs.length<=80) :
 Calls Tryz.prog 52 #[.int .i64 n,v] w (StuckPost n xss w):=by
 obtain ⟨i0,hi,hz0,hz1,hz2⟩:=ZiB;by_cases hn:0<=n/\n<=4096
 . have hd:decide (0<=n/\n<=4096)=true:=(by simp [hn]);obtain ⟨N,rfl⟩:=Int.eq_ofNat_of_zero_le hn.1;have hN:N<=4096:=(by omega);have ho:stuckS N xss=left (st N xss N).2 N:=(by unfold stuckS; rw [if_pos hn]; rfl);have HO:=Zq ho; clear ho;go_in;obtain ⟨hF1,hF2⟩:=hF hn.1 hn.2;clear hF hn hd;have hF3:N<=100:=(by omega);clear hF1;go_wp2_with fail;refine (Zi4 h N v xss _ hF3 hF2 hw hx).mono ?_;rintro e w2 ⟨v1,v2,t,rfl,hr1,hr2,hev⟩;have HM:=Zq (st_len (n:=N) (xss:=xss) N);generalize (st N xss N).2=done at *;clear hr1;obtain ⟨a2,c2,rfl⟩:=hr2.form;go_wp2;go_loopw [5,25] (fun u i wr=>∃ k:Nat,k<=N/\i = .int .i64 k/\∃ t,Row t 3 wr 3 1 u (left done k).length ((left done k).map (Value.int .i64))/\Row t 1 wr 4 1 (.slice a2 N c2) N (done.map Value.bool)/\Evo T0 w t wr (·≠0))
    (fun _ i _=>N - (intOf i).toNat)
   (case atStart=>exact ⟨0,Nat.zero_le _,rfl,t,Row.nil _ _ _ _ _,hr2,hev⟩);case round =>
    obtain ⟨k,hk,rfl,t,hr,hr2,hev⟩:=hrel;by_cases hlt:k<N
    . obtain ⟨d,hdk⟩:∃ d,done[k]?=some d:=⟨_,Yad (by have:=HM.out; simp at this; omega)⟩;obtain ⟨g,cap,hg,_,_,hcell,hfr⟩:=hr2.get (j:=k) (x := .bool d) (by simp [hdk]);simp only [Yaq,true_and] at hg;obtain ⟨rfl,rfl⟩:=hg;have hls:=ZfQ done k;have hgd:done.getD k false=d:=(by simp [hdk]);rw [hgd] at hls;have HD:=Zq hdk; clear hdk hgd;have hll:=ZfR done k;cases d
      . have HLS:=Zq hls; clear hls;go_wp2_with (at_builtin; refine Zac rfl _ _ 30 rfl 3 i0 (.int .i64 0) 1 8 Tryz.underlying30 hi hz0 hz1 hz2 rfl (by decide) rfl hr #[.int .i64 k] 3 (0,0) _ rfl (by simp) rfl ?c1 ?c2 ?c3 ?_);(case c1=>rfl);(case c2=>unfold maxLen; omega);(case c3=>omega);intro v' t' w' hr3 he;have hev2:=hev.trans (he.mono (K':=(·≠0)) (by intro x hx; omega));have hd2:=hr2.keep he (by simp);clear hev hr hr2 he;go_wp2;go_roundw;(case rel =>refine ⟨k+1,by omega,by go_num,t',?_,hd2,hev2⟩;rw [HLS.out]; simpa using hr3);case measure=>simp [intOf]; omega
      . have HLS:=Zq hls; clear hls;go_wp2;go_roundw;(case rel =>refine ⟨k+1,by omega,by go_num,t,?_,hr2,hev⟩;rw [HLS.out]; simpa using hr);case measure=>simp [intOf]; omega
    . have:k=N:=(by omega);subst this;go_wp2;go_ret;exact ⟨_,rfl,by rw [HO.out]; exact IntsV.ofRowAny hr (by have:=ZfR done k; omega),hev.toBelow (by simp)⟩
 . have ho:stuckS n xss=[]:=(by simp [stuckS,hn]);have HO:=Zq ho; clear ho;clear hF;by_cases h0:n<0;all_goals have h1:n<0\/4096<n:=(by omega);go_in;go_wp2;go_ret;exact ⟨_,rfl,by rw [HO.out]; exact ZiQ _,Yab _ _⟩
end Go.Proofs.YtikannmgllejfaaGreatDoor
