/- The walks of palaverref11. -/
import Derived.Test.YtikannmgllejfaaGreatDoorKUA
import Derived.Test.YtikannmgllejfaaGreatDoorKR1
import Derived.BigQuiet
set_option maxHeartbeats 4000000
set_option maxRecDepth 1000000
set_option linter.all false
namespace Go.Proofs.YtikannmgllejfaaGreatDoor
open Go.RowKit Pal
def textsPost (l:List Bs) (w:World) (e:Ending) (w':World):Prop:=Below w.heap.size w w'/\∃ v,e = .returned v/\StrsV (gh w') v l
theorem Zl7 (l:List Fd) (b:Nat) (lv:Value) (w:World) (hl:l.length<=1000) (hc:w.cell? ⟨b,0,none⟩=some lv) (hF:FdsV (gh w) lv l) :
 Calls Tryz.prog 76 #[.pointer (some ⟨b,0,none⟩)] w (textsPost (Fd.names l) w):=by
 obtain ⟨a,cap,rfl⟩:=hF.form;obtain ⟨n,hn⟩:∃ n,l.length=n:=⟨_,rfl⟩;rw [hn] at hF hc hl;obtain ⟨i0,hi,hz0,hz1,hz2⟩:=ZgF;have HF:=Zq hF;have HC:=Zq hc;have HN:=Zq hn;unfold textsPost;clear hF hn;go_in;clear hc;go_wp2_with fail;go_loopg [3,4] n (fun g u3 i W=>∃ (k:Nat) (t:Tag),i = .int .i64 k/\k+g=n/\Hid (Row t 1 W 9 1 u3 k (cellsS (Fd.names (l.take k))))/\Hid (Evo T0 w t W (·≠0)));case atStart=>exact ⟨0,T0,rfl,by omega,Zq (Row.nil _ _ _ _ _),Zq (Ybg _ _ _)⟩
 case round =>
  obtain ⟨k,t,rfl,hg,HR,HE⟩:=hrel;have hb:Below w.heap.size w wr:=HE.out.toBelow (by simp);have hc:=HE.out.cell (by simp [T0]) HC.out;by_cases hlt:k<n
  . obtain ⟨f,hf⟩:∃ f,l[k]?=some f:=⟨_,Yad (by have:=HN.out; omega)⟩;obtain ⟨fb,fo,rfl,c0,-⟩:=(HF.out.mono (Zah hb)).at hf;have HT:Hid (l.take (k+1)=l.take k++[f]):=Zq (by rw [List.take_add_one,hf]; rfl);clear hb hf;go_wp2_with (at_builtin; refine Zac rfl _ _ 93 rfl 9 i0 _ 1 16 Tryz.underlying93 hi hz0 hz1 hz2 rfl (by decide) rfl HR.out #[.string ⟨f.n.toArray⟩] 9 (0,0) _ rfl ?c0 rfl ?c1 ?c2 ?c3 ?_);(case c0=>simp);(case c1=>first|rfl|(intro u hu; obtain rfl:=List.mem_singleton.1 hu; rfl));(case c2=>unfold maxLen; omega);(case c3=>omega);intro v' t' w' hr he;have HR2:Hid (Row t' 1 w' 9 1 v' (k+1) (cellsS (Fd.names (l.take (k+1))))):=Zq (by rw [HT.out]; unfold Fd.names; rw [Ybe,ZfD]; simp only [List.map_cons,List.map_nil]; exact hr);have HE2:Hid (Evo T0 w t' w' (·≠0)):=Zq (HE.out.trans (he.mono fun _ h=>by rw [h]; decide));clear hr he c0 hc HR HE;go_wp2_with fail;go_roundg (gk - 1);(case rel=>exact ⟨k+1,t',by go_num,by omega,HR2,HE2⟩);case measure=>omega
  . obtain rfl:k=n:=(by omega);have HB:=Zq hb;clear hb;go_wp2;go_ret;have hr:=HR.out;rw [<-HN.out,List.take_length] at hr;refine ⟨HB.out,_,rfl,?_⟩;rw [ZfC] at hr;exact (StrsV.ofRow hr).1
theorem Zl8 (l:List Fd) (b:Nat) (lv:Value) (w:World) (hl:l.length<=1000) (hc:w.cell? ⟨b,0,none⟩=some lv) (hF:FdsV (gh w) lv l) :
 Calls Tryz.prog 77 #[.pointer (some ⟨b,0,none⟩)] w (intsPost (Fd.types l) w):=by
 obtain ⟨a,cap,rfl⟩:=hF.form;obtain ⟨n,hn⟩:∃ n,l.length=n:=⟨_,rfl⟩;rw [hn] at hF hc hl;obtain ⟨i0,hi,hz0,hz1,hz2⟩:=ZgG;have HF:=Zq hF;have HC:=Zq hc;have HN:=Zq hn;unfold intsPost;clear hF hn;go_in;clear hc;go_wp2_with fail;go_loopg [3,4] n (fun g u3 i W=>∃ (k:Nat) (t:Tag),i = .int .i64 k/\k+g=n/\Hid (Row t 1 W 3 1 u3 k ((Fd.types (l.take k)).map (Value.int .i64)))/\Hid (Evo T0 w t W (·≠0)));case atStart=>exact ⟨0,T0,rfl,by omega,Zq (Row.nil _ _ _ _ _),Zq (Ybg _ _ _)⟩
 case round =>
  obtain ⟨k,t,rfl,hg,HR,HE⟩:=hrel;have hb:Below w.heap.size w wr:=HE.out.toBelow (by simp);have hc:=HE.out.cell (by simp [T0]) HC.out;by_cases hlt:k<n
  . obtain ⟨f,hf⟩:∃ f,l[k]?=some f:=⟨_,Yad (by have:=HN.out; omega)⟩;obtain ⟨fb,fo,rfl,c0,c1,-⟩:=(HF.out.mono (Zah hb)).at hf;have HT:Hid (l.take (k+1)=l.take k++[f]):=Zq (by rw [List.take_add_one,hf]; rfl);clear hb hf c0;go_wp2_with (at_builtin; refine Zac rfl _ _ 30 rfl 3 i0 (.int .i64 0) 1 8 Tryz.underlying30 hi hz0 hz1 hz2 rfl (by decide) rfl HR.out #[.int .i64 f.t] 3 (0,0) _ rfl ?c0 rfl ?c1 ?c2 ?c3 ?_);(case c0=>simp);(case c1=>first|rfl|(intro u hu; obtain rfl:=List.mem_singleton.1 hu; rfl));(case c2=>unfold maxLen; omega);(case c3=>omega);intro v' t' w' hr he;have HR2:Hid (Row t' 1 w' 3 1 v' (k+1) ((Fd.types (l.take (k+1))).map (Value.int .i64))):=Zq (by rw [HT.out]; unfold Fd.types; rw [Ybe,Ybe]; simp only [List.map_cons,List.map_nil]; exact hr);have HE2:Hid (Evo T0 w t' w' (·≠0)):=Zq (HE.out.trans (he.mono fun _ h=>by rw [h]; decide));clear hr he c1 hc HR HE;go_wp2_with fail;go_roundg (gk - 1);(case rel=>exact ⟨k+1,t',by go_num,by omega,HR2,HE2⟩);case measure=>omega
  . obtain rfl:k=n:=(by omega);have HB:=Zq hb;clear hb;go_wp2;go_ret;have hr:=HR.out;rw [<-HN.out,List.take_length] at hr;exact ⟨HB.out,_,rfl,IntsV.ofRowAny hr (by unfold Fd.types; rw [Ybf]; have:=HN.out; omega)⟩
def fdV (f:Fd):Value := .agg #[.string ⟨f.n.toArray⟩,.int .i64 f.t,.string ⟨f.fo.toArray⟩,.string ⟨f.ru.toArray⟩,.string ⟨f.sh.toArray⟩]
theorem Zl9 (f:Fd) (k:Nat) (w:World) (hk:k<3) :
 Calls Tryz.prog 73 #[fdV f,.int .i64 k] w fun e w'=>e = .returned (.string ⟨(textK f k).toArray⟩)/\Below w.heap.size w w':=by
 unfold fdV;have HB:=Zq ((Yab w.heap.size w).alloc Zs (.cells #[.string ⟨f.n.toArray⟩,.int .i64 f.t,.string ⟨f.fo.toArray⟩,.string ⟨f.ru.toArray⟩,.string ⟨f.sh.toArray⟩] 53));rcases (by omega:k=0\/k=1\/k=2) with rfl|rfl|rfl
 . go_in;go_wp2;(try rw [Yae]);go_ret;exact ⟨rfl,HB.out⟩
 . go_in;go_wp2;(try rw [Yae]);go_ret;exact ⟨rfl,HB.out⟩
 . go_in;go_wp2;(try rw [Yae]);go_ret;exact ⟨rfl,HB.out⟩
theorem ZsG (l:List Fd) (v:Value) (w:World) (hl:l.length<=1000000) (hS:∀ f∈l,Short f) (hF:FdsV (gh w) v l) :
 Calls Tryz.prog 53 #[v] w fun e w'=>e = .returned (namedV (namesOk [] 0 l))/\Below w.heap.size w w':=by
 obtain ⟨a,cap,rfl⟩:=hF.form;obtain ⟨n,hn⟩:∃ n,l.length=n:=⟨_,rfl⟩;obtain ⟨R,hR⟩:∃ R,namesOk [] 0 l=R:=⟨_,rfl⟩;rw [hn] at hF hl |-;rw [hR];have HF:=Zq hF;have HS:=Zq hS;have HN:=Zq hn;have HR0:=Zq hR;clear hF hn hS hR;go_in;go_wp2_with fail;go_loopg [4] n (fun g i W=>∃ (k:Nat),i = .int .i64 k/\k+g=n/\Hid (Below w.heap.size w W)/\Hid (namesOk (Fd.names (l.take k)) k (l.drop k)=R));case atStart=>exact ⟨0,rfl,by omega,Zq (Yab _ _),Zq HR0.out⟩
 case round =>
  obtain ⟨k,rfl,hg,HB,HK⟩:=hrel;by_cases hlt:k<n
  . obtain ⟨f,hf⟩:∃ f,l[k]?=some f:=⟨_,Yad (by have:=HN.out; omega)⟩;obtain ⟨fb,fo,rfl,c0,c1,-⟩:=(HF.out.mono (Zah HB.out)).at hf;have HD:Hid (l.drop k=f::l.drop (k+1)):=Zq (by rw [Yas (by have:=HN.out; omega),(Yag.1 hf).2]);have HT:Hid (l.take (k+1)=l.take k++[f]):=Zq (by rw [List.take_add_one,hf]; rfl);have HFK:=Zq hf;have hsf:=HS.out f (Yay hf);have hnl:=hsf.n;have HRN:=Zq (ZlY f.n wr (by omega));have HKD:Hid (namesOk (Fd.names (l.take k)) k (f::l.drop (k+1))=R):=Zq (by rw [<-HD.out]; exact HK.out);clear hf hsf c1;obtain ⟨fn,ft,ffo,fru,fsh⟩:=f;simp only at c0 HRN hnl;cases hnm:isName fn with
    | false =>rw [hnm] at HRN;have HE:Hid (R=some (k,9)):=Zq (by rw [<-HKD.out]; exact ZjN (.inr hnm));clear hnm;go_wp2_with fail;refine HRN.out.mono ?_;rintro r W1 ⟨rfl,hb1⟩;have HB1:=Zq (HB.out.seq hb1);clear hb1 c0;go_wp2;(try rw [Yae]);refine Yaf (v := .tuple #[.int .i64 k,.int .i64 9]) (by simp [results,Tryz.results53,go_sem]) rfl ?_;exact ⟨by rw [HE.out]; rfl,HB1.out⟩
    | true =>
     rw [hnm] at HRN;have HNM:=Zq hnm;clear hnm;go_wp2_with fail;refine HRN.out.mono ?_;rintro r W1 ⟨rfl,hb1⟩;have HB1:=Zq (HB.out.seq hb1);clear hb1 c0;go_wp2_with fail;obtain ⟨go,hgo⟩:∃ X,X=gk:=⟨_,rfl⟩;subst hgo;go_loopg [5] k (fun g2 i W=>∃ (j:Nat),i = .int .i64 j/\j+g2=k/\W1.heap.size<=W.heap.size/\Hid (Below W1.heap.size W1 W)/\Hid ((Fd.names (l.take j)).contains fn=false));(case atStart=>exact ⟨0,rfl,by omega,Nat.le_refl _,Zq (Yab _ _),Zq rfl⟩);case round =>
      obtain ⟨j,rfl,hg2,hsz,HB2,HNO⟩:=hrel;have HB3:=Zq (HB1.out.trans (HB2.out.mono HB1.out.size));obtain ⟨fb1,fo1,he1,c0,c1,-⟩:=(HF.out.mono (Zah HB3.out)).at HFK.out;cases he1;simp only at c0 c1;by_cases hj:j<k
      . obtain ⟨f2,hf2⟩:∃ f2,l[j]?=some f2:=⟨_,Yad (by have:=HN.out; omega)⟩;obtain ⟨fb2,fo2,he2,d0,-⟩:=(HF.out.mono (Zah HB3.out)).at hf2;cases he2;have HT2:Hid (l.take (j+1)=l.take j++[f2]):=Zq (by rw [List.take_add_one,hf2]; rfl);have hj2:j<n:=(by omega);by_cases he:f2.n=fn
        . have hq:(f2.n == fn)=true:=(by simp [he]);have HE:Hid (R=some (k,9)):=Zq (by rw [<-HKD.out];refine ZjN (.inl ?_);have hm:f2.n∈Fd.names (l.take k):=(by unfold Fd.names;refine List.mem_map.2 ⟨f2,?_,rfl⟩;exact Yay (i:=j) (by rw [List.getElem?_take_of_lt hj]; exact hf2));rw [he] at hm;simpa using hm);have HBD:=Zq (HB3.out.drew);clear he hf2 c1;go_upto_region 9 with fail;go_quiet (fail);go_wp2;(try rw [Yae]);refine Yaf (v := .tuple #[.int .i64 k,.int .i64 9]) (by simp [results,Tryz.results53,go_sem]) rfl ?_;exact ⟨by rw [HE.out]; rfl,by first|exact HBD.out|exact Pal.Ybb HB3.out _⟩
        . have hq:(f2.n == fn)=false:=(by simp [he]);have HNO2:Hid ((Fd.names (l.take (j+1))).contains fn=false):=Zq (by
           have h1:=HNO.out;rw [HT2.out];unfold Fd.names at h1 |-;rw [Ybe];simp only [List.contains_eq_mem,decide_eq_false_iff_not,List.mem_append,List.map_cons,List.map_nil,List.mem_singleton] at h1 |-;rintro (h|h)
           . exact h1 h
           . exact he h.symm)
          clear he hf2 c1;go_upto_region 9 with fail;go_quiet (fail);go_wp2_with fail;go_roundg (gk - 1);(case rel=>exact ⟨j+1,by go_num,by omega,hsz,Zq (by first|exact HB2.out.drew|exact Pal.Ybb HB2.out _),HNO2⟩);case measure=>omega
      . obtain rfl:j=k:=(by omega);by_cases h1:ft<1
        . have HE:Hid (R=some (j,8)):=Zq (by rw [<-HKD.out]; exact ZjO HNO.out HNM.out (fun h=>by simp only at h; omega));clear c0;go_wp2;(try rw [Yae]);refine Yaf (v := .tuple #[.int .i64 j,.int .i64 8]) (by simp [results,Tryz.results53,go_sem]) rfl ?_;exact ⟨by rw [HE.out]; rfl,HB3.out⟩
        . by_cases h2:3<ft
          . have HE:Hid (R=some (j,8)):=Zq (by rw [<-HKD.out]; exact ZjO HNO.out HNM.out (fun h=>by simp only at h; omega));clear c0;go_wp2;(try rw [Yae]);refine Yaf (v := .tuple #[.int .i64 j,.int .i64 8]) (by simp [results,Tryz.results53,go_sem]) rfl ?_;exact ⟨by rw [HE.out]; rfl,HB3.out⟩
          . have HK2:Hid (namesOk (Fd.names (l.take (j+1))) (j+1) (l.drop (j+1))=R):=Zq (by have h3:=HKD.out;rw [ZjP HNO.out HNM.out ⟨by simp only; omega,by simp only; omega⟩] at h3;rw [HT.out];unfold Fd.names at h3 |-;rw [Ybe];exact h3);clear c0;go_wp2_with fail;go_roundg (go - 1);(case rel=>exact ⟨j+1,by go_num,by omega,HB3,HK2⟩);case measure=>omega
  . obtain rfl:k=n:=(by omega);have HE:Hid (R=none):=Zq (by rw [<-HK.out,<-HN.out,List.drop_length]; rfl);go_wp2;refine Yaf (v := .tuple #[.int .i64 0,.int .i64 0]) (by simp [results,Tryz.results53,go_sem]) rfl ?_;exact ⟨by rw [HE.out]; rfl,HB.out⟩
end Go.Proofs.YtikannmgllejfaaGreatDoor
