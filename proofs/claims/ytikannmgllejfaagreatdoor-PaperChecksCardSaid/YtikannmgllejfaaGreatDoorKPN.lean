/- The names of an expression, rising, each once, as plain law;. -/
import Derived.Test.YtikannmgllejfaaGreatDoorKSD
import Derived.Test.YtikannmgllejfaaGreatDoorKVc
import Derived.Test.YtikannmgllejfaaGreatDoorKVd
import Derived.Test.YtikannmgllejfaaGreatDoorShelf
import Derived.IntWalk
import Derived.RegionTactic
import Derived.ChangeAlike
import Derived.Deep.RegionHeld3
import Derived.Lib.SlicesCompact
import Derived.Sort.Walk0
import Derived.Test.YtikannmgllejfaaGreatDoorShelfB
import Derived.Sort.OwnSorted
import Derived.Lib.OwnBridge
set_option maxHeartbeats 8000000
set_option maxRecDepth 1000000
set_option linter.all false
namespace Go.Proofs.YtikannmgllejfaaGreatDoor
open Go.RowKit Pal
theorem Zh0:(Tryz.prog.info? 9).map (fun i=>(i.zero,i.size,i.bytes))=some (some (.string ⟨#[]⟩),1,16):=by kernel_rfl
abbrev LtS (l:List Bs):Prop:=l.Pairwise (·<·)
theorem Zh1 (a:Bs):¬ a<a:=List.lt_irrefl a
theorem Zh2 {a b c:Bs} (h:a<b) (g:b<c):a<c:=List.lt_trans h g
theorem Zh3 {a b:Bs} (h:a<b):¬ b<a:=fun g=>Zh1 a (Zh2 h g)
theorem Zh4 {a b:Bs} (h:¬ a<b) (g:a≠b):b<a:=by
 rcases Decidable.em (b<a) with h2|h2
 . exact h2
 . exact absurd (List.le_antisymm (List.not_lt.1 h2) (List.not_lt.1 h)) g
theorem Zh5:∀ {l m:List Bs},LtS l->LtS m->(∀ x,x∈l↔x∈m)->l=m:=by
 intro l;induction l with
 | nil =>
  intro m _ _ h;cases m with
  | nil=>rfl
  | cons b m=>exact absurd ((h b).2 (.head _)) (by simp)
 | cons a l ih =>
  intro m hl hm h;cases m with
  | nil=>exact absurd ((h a).1 (.head _)) (by simp)
  | cons b m =>
   have hl:=List.pairwise_cons.1 hl;have hm:=List.pairwise_cons.1 hm;have hab:a=b:=by
    apply Classical.byContradiction;intro hne;have h1:a∈m:=by
     rcases Ybc.1 ((h a).1 (.head _)) with e|e
     . exact absurd e hne
     . exact e
    have h2:b∈l:=by
     rcases Ybc.1 ((h b).2 (.head _)) with e|e
     . exact absurd e.symm hne
     . exact e
    exact Zh3 (hm.1 a h1) (hl.1 b h2)
   subst hab;congr 1;refine ih hl.2 hm.2 (fun x=>⟨fun hx=>?_,fun hx=>?_⟩)
   . rcases Ybc.1 ((h x).1 (List.mem_cons_of_mem _ hx)) with e|e
     . subst e; exact absurd (hl.1 x hx) (Zh1 x)
     . exact e
   . rcases Ybc.1 ((h x).2 (List.mem_cons_of_mem _ hx)) with e|e
     . subst e; exact absurd (hm.1 x hx) (Zh1 x)
     . exact e
theorem Zh6 (s:Bs):∀ l:List Bs,(∀ x∈l.take (lead s l),x<s)/\(∀ a,l[lead s l]?=some a->¬ a<s):=by
 intro l;induction l with
 | nil=>exact ⟨fun x hx=>by simp at hx,fun a h=>by simp at h⟩
 | cons a l ih =>
  unfold lead;by_cases h:Op.bytesLess a s=true
  . rw [if_pos h];have h2:a<s:=(by rw [bytesLess_eq] at h; exact of_decide_eq_true h);refine ⟨fun x hx=>?_,fun b hb=>ih.2 b (by simpa using hb)⟩;rw [List.take_succ_cons] at hx;rcases Ybc.1 hx with e|e
    . rw [e]; exact h2
    . exact ih.1 x e
  . rw [if_neg h];refine ⟨fun x hx=>by simp at hx,fun b hb=>?_⟩;simp at hb;subst hb;rw [bytesLess_eq] at h;simpa using h
theorem Zh7 {l:List Bs} (h:LtS l) (s:Bs):LtS (withM l s):=by
 unfold withM;split
 . exact h
 . rename_i hne;obtain ⟨h1,h2⟩:=Zh6 s l;have hd:∀ x∈l.drop (lead s l),s<x:=by
    intro x hx;have hp:=h.drop (i:=lead s l);cases hh:l.drop (lead s l) with
    | nil=>rw [hh] at hx; simp at hx
    | cons a r =>
     have ha:l[lead s l]?=some a:=(by have:=congrArg (fun z=>z[0]?) hh;simpa using this);have hsa:s<a:=Zh4 (h2 a ha) (fun e=>hne (by rw [ha,e]));rw [hh] at hx hp;have hp:=List.pairwise_cons.1 hp;rcases Ybc.1 hx with e|e
     . rw [e]; exact hsa
     . exact Zh2 hsa (hp.1 x e)
   refine List.pairwise_append.2 ⟨h.take,List.pairwise_cons.2 ⟨hd,h.drop⟩,fun x hx y hy=>?_⟩;rcases Ybc.1 hy with e|e
   . rw [e]; exact h1 x hx
   . exact Zh2 (h1 x hx) (hd y e)
theorem Zh8:∀ (ms l:List Bs),LtS l->LtS (ms.foldl withM l):=by
 intro ms;induction ms with
 | nil=>intro l h; exact h
 | cons m ms ih=>intro l h; exact ih _ (Zh7 h m)
theorem Zh9:∀ (ks:List Ex) (l:List Bs),LtS l->LtS (namesL ks l):=by
 intro ks;induction ks with
 | nil=>intro l h; rw [Zfw]; exact h
 | cons k ks ih=>intro l h; rw [Zfx]; exact ih _ (Zh8 _ _ h)
theorem Zia (e:Ex):LtS (namesM e):=by
 cases e with
 | mk op n s ks =>
  by_cases h:op=4
  . subst h; rw [Zfu]; simp [LtS]
  . rw [Zfv h]; exact Zh9 _ _ (by simp [LtS])
mutual
def namesQ : Ex -> List Bs
  | .mk op _ s ks => (if op = 4 then [s] else []) ++ namesQL ks
def namesQL : List Ex -> List Bs
  | [] => []
  | k :: r => namesQ k ++ namesQL r
end
theorem Zib (op n:Int) (s:Bs) (ks:List Ex):namesQ (.mk op n s ks)=(if op=4 then [s] else [])++namesQL ks:=by rw [namesQ]
theorem Zic:namesQL []=[]:=by rw [namesQL]
theorem Zid (k:Ex) (r:List Ex):namesQL (k::r)=namesQ k++namesQL r:=by rw [namesQL]
theorem Zie (ks:List Ex) (x:Bs):x∈namesQL ks↔∃ k∈ks,x∈namesQ k:=by
 induction ks with
 | nil=>rw [Zic]; simp
 | cons k ks ih=>rw [Zid,List.mem_append,ih]; simp
theorem Zif (e:Ex):∀ x,x∈namesQ e↔Occ e x:=by
 refine Ex.ind (P:=fun e=>∀ x,x∈namesQ e↔Occ e x) ?_ e;intro op n s ks ih x;rw [Zib,List.mem_append,Zie];constructor
 . rintro (h|⟨k,hk,h⟩)
   . split at h
     . rename_i h4;subst h4;simp at h;subst h;exact .here n x ks
     . simp at h
   . exact .kid op n s ks k x hk ((ih k hk x).1 h)
 . intro h;cases h with
   | here=>exact .inl (by simp)
   | kid _ _ _ _ k _ hk h=>exact .inr ⟨k,hk,(ih k hk x).2 h⟩
theorem Zig {z:List Bs} {m:Nat} (h:m<z.length):z.toArray[m]! = z[m]:=by simp [h]
theorem Zih {z:List Bs} (hz:z.Pairwise (·<=·)):∀ m,m<=z.length->LtS (Lib.compactUpTo z.toArray m)/\(∀ x,x∈Lib.compactUpTo z.toArray m↔x∈z.take m):=by
 intro m;induction m with
 | zero=>intro _; simp [Lib.compactUpTo,LtS]
 | succ m ih =>
  intro hm;obtain ⟨h1,h2⟩:=ih (by omega);have hm':m<z.length:=(by omega);rw [Lib.compactUpTo_succ];have htk:∀ x,x∈z.take (m+1)↔x∈z.take m\/x=z[m]:=(by intro x;rw [List.take_add_one,Yad hm',List.mem_append];simp);by_cases hk:Lib.keeps z.toArray m=true
  . rw [if_pos hk,Zig hm'];refine ⟨?_,fun x=>by rw [List.mem_append,h2,htk]; simp⟩;refine List.pairwise_append.2 ⟨h1,by simp,fun x hx y hy=>?_⟩;simp at hy;subst hy;have hx2:=(h2 x).1 hx;obtain ⟨i,hi,rfl⟩:=List.getElem_of_mem hx2;rw [List.length_take] at hi;rw [List.getElem_take];have hle:∀ j (hj:j<m),z[j]<=z[m]:=fun j hj=>List.pairwise_iff_getElem.1 hz j m (by omega) hm' hj;have hprev:z[m - 1]≠z[m]:=(by intro e;unfold Lib.keeps at hk;have h0:m≠0:=(by omega);simp [h0,hm',show m - 1<z.length by omega,e] at hk);have hlt:z[m - 1]<z[m]:=Zh4 (List.not_lt.2 (hle (m - 1) (by omega))) (fun e=>hprev e.symm);by_cases him:i=m - 1
    . subst him; exact hlt
    . have hle2:z[i]<=z[m - 1]:=List.pairwise_iff_getElem.1 hz i (m - 1) (by omega) (by omega) (by omega);by_cases he:z[i]=z[m - 1]
      . rw [he]; exact hlt
      . exact Zh2 (Zh4 (List.not_lt.2 hle2) (fun e=>he e.symm)) hlt
  . rw [if_neg hk,List.append_nil];refine ⟨h1,fun x=>?_⟩;rw [h2,htk];have h0:m≠0:=(by intro e;subst e;simp [Lib.keeps] at hk);have he:z[m - 1]=z[m]:=(by unfold Lib.keeps at hk;simp [h0,hm',show m - 1<z.length by omega] at hk;exact hk.symm);constructor
    . exact .inl
    . rintro (h|h)
      . exact h
      . rw [h,<-he];have:(z.take m)[m - 1]?=some z[m - 1]:=(by rw [List.getElem?_take]; simp [show m - 1<m by omega,show m - 1<z.length by omega]);exact Yay this
theorem Zii (l:List Bs):LtS (Lib.compact (l.mergeSort fun x y=>decide (x<=y)))/\∀ x,x∈Lib.compact (l.mergeSort fun x y=>decide (x<=y))↔x∈l:=by have hp:=List.pairwise_mergeSort (le:=fun x y:Bs=>decide (x<=y)) (fun a b c h1 h2=>Yam (List.le_trans (of_decide_eq_true h1) (of_decide_eq_true h2))) (fun a b=>by simpa using List.le_total a b) l;have hz:(l.mergeSort fun x y=>decide (x<=y)).Pairwise (·<=·):=hp.imp (fun h=>of_decide_eq_true h);have h:=Zih hz _ Zs;unfold Lib.compact;refine ⟨h.1,fun x=>?_⟩;rw [h.2,List.take_length,List.mem_mergeSort]
theorem Zij {e:Ex} (h:Good e):Lib.compact ((namesQ e).mergeSort fun x y=>decide (x<=y))=namesM e:=by obtain ⟨h1,h2⟩:=Zii (namesQ e);refine Zh5 h1 (Zia e) (fun x=>?_);rw [h2,Zif];exact ⟨ZfB e h x,ZfA e x⟩
theorem KV.atG {h:GH} {a:Option Addr} {n cap:Nat} {ks:List Ex} (t:KV h (.slice a n cap) ks) {j:Nat} {k:Ex} (hj:ks[j]?=some k) :
 ∃ b off u,a=some ⟨b,off,none⟩/\h.cell b (off+j*4)=some (.int .i64 k.op)/\h.cell b (off+j*4+1)=some (.int .i64 k.n)/\h.cell b (off+j*4+2)=some (strV k.s)/\h.cell b (off+j*4+3)=some u/\KV h u k.ks:=by
 generalize hv:Value.slice a n cap=v at t;cases t with
 | mk _ a' cap' us hn hc hm hx hk =>simp only [Yaq] at hv;obtain ⟨rfl,rfl,rfl⟩:=hv;obtain ⟨b,off,ha,h0,h1,h2,h3⟩:=hx j k hj;exact ⟨b,off,us j,ha,h0,h1,h2,h3,hk j k hj⟩
def rowPost (t:Tag) (l:List Bs) (w:World) (r:Ending) (w':World):Prop:=∃ t' v',Evo t w t' w' (·=1)/\r = .returned v'/\Row t' 1 w' 9 1 v' l.length (cellsS l)
def PNm (e:Ex):Prop:=∀ (v lv:Value) (l:List Bs) (t:Tag) (w:World),KV (hz t w) v e.ks->Row t 1 w 9 1 lv l.length (cellsS l)->l.length+(namesQ e).length<=1000000 ->
 Calls Tryz.prog 91 #[lv,exV e.op e.n e.s v] w (rowPost t (l++namesQ e) w)
theorem Zik {ks:List Ex} {k:Nat} (h:k<ks.length):namesQL (ks.take (k+1))=namesQL (ks.take k)++namesQ ks[k]:=by
 induction ks generalizing k with
 | nil=>simp at h
 | cons a r ih =>
  cases k with
  | zero=>simp [Zid,Zic]
  | succ k =>simp only [List.take_succ_cons,Zid,List.append_assoc];rw [ih (by simpa using h)];simp
theorem Zil (ks:List Ex) (k:Nat):(namesQL (ks.take k)).length<=(namesQL ks).length:=by
 induction ks generalizing k with
 | nil=>simp
 | cons a r ih =>
  cases k with
  | zero=>simp [Zic]
  | succ k =>simp only [List.take_succ_cons,Zid,Yak];have:=ih k;omega
theorem Zim (W:World) {b:Nat} {o:Obj} (h:W.heap[b]?=some o):b<W.heap.size:=(Yaa.1 h).1
theorem Zin {t:Tag} {w:World} {T:TypeId} {v:Value} {n m:Nat} {xs ys:List Value} (h:Row t 1 w T 1 v n xs) (e:n=m) (f:xs=ys):Row t 1 w T 1 v m ys:=by subst e; subst f; exact h
theorem Zio (e:Ex):PNm e:=by
 refine Ex.ind (P:=PNm) ?_ e;intro op n s ks ih v lv l t w hK hRow hle;simp only [Ex.op,Ex.n,Ex.s,Ex.ks] at hK |-;obtain ⟨a,cap,rfl⟩:=hK.form;obtain ⟨la,lc,rfl⟩:=hRow.form;obtain ⟨i0,hi,hz0,hz1,hz2⟩:=info_parts Zh0;obtain ⟨len,hlen⟩:∃ len,ks.length=len:=⟨_,rfl⟩;obtain ⟨ll,hll⟩:∃ len,l.length=len:=⟨_,rfl⟩;have HLEN:=Zq hlen;have HK:=Zq hK;have HI:=Zq ih;rw [Zib] at hle |-;rw [hlen] at HK;have hlb:len<=9223372036854775807:=by have:=HK.out.cap; omega
 rw [hll] at hRow;have HLL:=Zq hll;unfold exV strV;rw [hlen,hll];have E0:=Zq ((Ybg t w (fun _=>False)).alloc 0 (cEx op n s (.slice a len cap)));have HBOX:=Zq (Yac w (cEx op n s (.slice a len cap)));have hR0:=hRow.keep E0.out (by simp);clear hRow hK ih hlen hll;by_cases h4:op=4
 . have q4:(op == 4)=true:=(by simp [h4]);rw [if_pos h4] at hle |-;obtain ⟨l1,hl1⟩:∃ l1,l++[s]=l1:=⟨_,rfl⟩;have HL1:Hid (l1.length+(namesQL ks).length<=1000000):=Zq (by rw [<-hl1]; simp at hle |-; omega);have hl6:ll<=1000000:=(by have:=HLL.out; omega);rw [<-List.append_assoc,hl1];have HS1:=Zq hl1;clear hle hl1 h4;go_in;go_upto_region 1 with fail;generalize w.alloc (cEx op n s (.slice a len cap))=W0 at *;obtain ⟨⟨c0,c1,c2,c3⟩,-⟩:=ZdP HBOX.out;go_wp2_with (at_builtin; refine Zac rfl _ _ 93 rfl 9 i0 _ 1 16 Tryz.underlying93 hi hz0 hz1 hz2 rfl (by decide) rfl hR0 #[.string ⟨s.toArray⟩] 9 (0,0) _ rfl ?c0 rfl ?c1 ?c2 ?c3 ?_);(case c0=>simp);(case c1=>first|rfl|(intro u hu; obtain rfl:=List.mem_singleton.1 hu; rfl));(case c2=>unfold maxLen; omega);(case c3=>omega);intro v1 t1 w1 hr1 he1;have HE1:=Zq ((E0.out.mono (fun _ h=>h.elim)).trans he1);obtain ⟨a1,k1,rfl⟩:=hr1.form;have HBOX1:=Zq ((he1.block w.heap.size (Zim W0 HBOX.out) (by simp [Tag.set_same])).trans HBOX.out);have hln:(l++[s]).length=ll+1:=(by rw [Yak,HLL.out]; rfl);have HR1:=Zq (Zin hr1 (ys:=cellsS l1) (m:=l1.length) (by rw [<-HS1.out]; exact hln.symm) (by rw [<-HS1.out,ZfD]; rfl));clear hr1 he1 hR0 hln c0 c1 c2 c3;obtain ⟨⟨c0,c1,c2,c3⟩,-⟩:=ZdP HBOX1.out;go_wp2;go_loopg [0,18] len (fun g lv' i wr=>∃ (k:Nat) (tr:Tag),i = .int .i64 k/\k+g=len/\Hid (Row tr 1 wr 9 1 lv' (l1++namesQL (ks.take k)).length (cellsS (l1++namesQL (ks.take k))))/\Hid (Evo t w tr wr (·=1)));(case atStart=>exact ⟨0,_,rfl,by omega,Zq (by rw [List.take_zero,Zic,List.append_nil]; exact HR1.out),HE1⟩);case round =>
    obtain ⟨k,tr,rfl,hg,HRW,HEV⟩:=hrel;by_cases hlt:k<len
    . obtain ⟨G,rfl⟩:∃ G,gk=G+1:=⟨gk - 1,by omega⟩;have hkl:k<ks.length:=(by have:=HLEN.out; omega);obtain ⟨b,off,u,rfl,d0,d1,d2,d3,hKu⟩:=(HK.out.mono (HEV.out.hz (by omega))).atG (Yad hkl);obtain ⟨ua,uc,rfl⟩:=hKu.form;have hmem:ks[k]∈ks:=List.getElem_mem hkl;have HTK:=Zq (Zik hkl);have hle:(l1++namesQL (ks.take k)).length+(namesQ ks[k]).length<=1000000:=(by have h1:=Zil ks (k+1);rw [HTK.out] at h1;simp only [Yak] at h1 |-;have:=HL1.out;omega);replace d0:=Zag d0;replace d1:=Zag d1;replace d2:=Zag d2;replace d3:=Zag d3;unfold strV at d2;have HX:=Zq (fun lvk tw W=>HI.out ks[k] hmem (.slice ua ks[k].ks.length uc) lvk (l1++namesQL (ks.take k)) tw W);have HKU:=Zq hKu;clear hKu hmem;generalize ks[k]=y at *;have E2:=Zq ((Ybg tr wr (fun _=>False)).alloc 0 (cEx y.op y.n y.s (.slice ua y.ks.length uc)));have hz2':=HX.out u0 (tr.set wr.heap.size 0) _ (HKU.out.mono (E2.out.hz (by simp))) (HRW.out.keep E2.out (by simp)) hle;unfold exV strV rowPost at hz2';have HZ:=Zq hz2';clear hz2' HX;go_wp2_with fail;refine HZ.out.mono ?_;rintro r W2 ⟨t2,v2,he2,rfl,hr2⟩;have HE2:=Zq (HEV.out.trans ((E2.out.mono (fun _ h=>h.elim)).trans he2));have HR2:=Zq (Zin hr2 (ys:=cellsS (l1++namesQL (ks.take (k+1)))) (m:=(l1++namesQL (ks.take (k+1))).length) (by rw [HTK.out,List.append_assoc]) (by rw [HTK.out,List.append_assoc]));clear hr2 he2 d0 d1 d2 d3;go_wp2;go_roundg G;(case rel=>exact ⟨k+1,t2,by go_num,by omega,HR2,HE2⟩);case measure=>omega
    . have hke:k=ks.length:=(by have:=HLEN.out; omega);have HRE:=Zq (Zin HRW.out (ys:=cellsS (l1++namesQL ks)) (m:=(l1++namesQL ks).length) (by rw [hke,List.take_length]) (by rw [hke,List.take_length]));clear HRW hke;go_wp2;go_ret;exact ⟨tr,_,HEV.out,rfl,HRE.out⟩
 . have q4:(op == 4)=false:=Zr h4;rw [if_neg h4,List.nil_append] at hle |-;obtain ⟨l1,hl1⟩:∃ l1,l=l1:=⟨_,rfl⟩;have HL1:Hid (l1.length+(namesQL ks).length<=1000000):=Zq (by rw [<-hl1]; exact hle);have hl6:ll<=1000000:=(by have:=HLL.out; omega);rw [hl1];have HR1:=Zq (Zin hR0 (ys:=cellsS l1) (m:=l1.length) (by rw [<-hl1]; exact HLL.out.symm) (by rw [<-hl1]));have HE1:=Zq (E0.out.mono (K':=(·=1)) (fun _ h=>h.elim));clear hle hl1 h4 hR0;go_in;go_upto_region 1 with fail;generalize w.alloc (cEx op n s (.slice a len cap))=W0 at *;obtain ⟨⟨c0,c1,c2,c3⟩,-⟩:=ZdP HBOX.out;go_wp2;go_loopg [0,18] len (fun g lv' i wr=>∃ (k:Nat) (tr:Tag),i = .int .i64 k/\k+g=len/\Hid (Row tr 1 wr 9 1 lv' (l1++namesQL (ks.take k)).length (cellsS (l1++namesQL (ks.take k))))/\Hid (Evo t w tr wr (·=1)));(case atStart=>exact ⟨0,_,rfl,by omega,Zq (by rw [List.take_zero,Zic,List.append_nil]; exact HR1.out),HE1⟩);case round =>
    obtain ⟨k,tr,rfl,hg,HRW,HEV⟩:=hrel;by_cases hlt:k<len
    . obtain ⟨G,rfl⟩:∃ G,gk=G+1:=⟨gk - 1,by omega⟩;have hkl:k<ks.length:=(by have:=HLEN.out; omega);obtain ⟨b,off,u,rfl,d0,d1,d2,d3,hKu⟩:=(HK.out.mono (HEV.out.hz (by omega))).atG (Yad hkl);obtain ⟨ua,uc,rfl⟩:=hKu.form;have hmem:ks[k]∈ks:=List.getElem_mem hkl;have HTK:=Zq (Zik hkl);have hle:(l1++namesQL (ks.take k)).length+(namesQ ks[k]).length<=1000000:=(by have h1:=Zil ks (k+1);rw [HTK.out] at h1;simp only [Yak] at h1 |-;have:=HL1.out;omega);replace d0:=Zag d0;replace d1:=Zag d1;replace d2:=Zag d2;replace d3:=Zag d3;unfold strV at d2;have HX:=Zq (fun lvk tw W=>HI.out ks[k] hmem (.slice ua ks[k].ks.length uc) lvk (l1++namesQL (ks.take k)) tw W);have HKU:=Zq hKu;clear hKu hmem;generalize ks[k]=y at *;have E2:=Zq ((Ybg tr wr (fun _=>False)).alloc 0 (cEx y.op y.n y.s (.slice ua y.ks.length uc)));have hz2':=HX.out u0 (tr.set wr.heap.size 0) _ (HKU.out.mono (E2.out.hz (by simp))) (HRW.out.keep E2.out (by simp)) hle;unfold exV strV rowPost at hz2';have HZ:=Zq hz2';clear hz2' HX;go_wp2_with fail;refine HZ.out.mono ?_;rintro r W2 ⟨t2,v2,he2,rfl,hr2⟩;have HE2:=Zq (HEV.out.trans ((E2.out.mono (fun _ h=>h.elim)).trans he2));have HR2:=Zq (Zin hr2 (ys:=cellsS (l1++namesQL (ks.take (k+1)))) (m:=(l1++namesQL (ks.take (k+1))).length) (by rw [HTK.out,List.append_assoc]) (by rw [HTK.out,List.append_assoc]));clear hr2 he2 d0 d1 d2 d3;go_wp2;go_roundg G;(case rel=>exact ⟨k+1,t2,by go_num,by omega,HR2,HE2⟩);case measure=>omega
    . have hke:k=ks.length:=(by have:=HLEN.out; omega);have HRE:=Zq (Zin HRW.out (ys:=cellsS (l1++namesQL ks)) (m:=(l1++namesQL ks).length) (by rw [hke,List.take_length]) (by rw [hke,List.take_length]));clear HRW hke;go_wp2;go_ret;exact ⟨tr,_,HEV.out,rfl,HRE.out⟩
open Go.RowKit Pal Go.Sort
theorem Zip (e:Ex):∀ (deep left m:Nat),chk e deep left=some m->(namesQ e).length+m<=left:=by
 refine Ex.ind (P:=fun e=>∀ (deep left m:Nat),chk e deep left=some m->(namesQ e).length+m<=left) ?_ e;intro op n s ks ih deep left m h;by_cases hb:left=0\/24<deep\/alone op n s ks=false
 . rw [Zdn hb] at h; cases h
 rw [Zdo hb] at h;have hl:left≠0:=fun h=>hb (.inl h);have go:∀ (l:List Ex),(∀ k∈l,k∈ks)->∀ (left m:Nat),chkL l (deep+1) left=some m->(namesQL l).length+m<=left:=by
  intro l;induction l with
  | nil=>intro _ left m h; rw [Zdl] at h; cases h; rw [Zic]; simp
  | cons k l2 ih2 =>
   intro hm left m h;rw [Zdm] at h;cases h1:chk k (deep+1) left with
   | none=>rw [h1] at h; cases h
   | some x =>rw [h1,Option.bind_some] at h;have a1:=ih k (hm k (by simp)) _ _ _ h1;have a2:=ih2 (fun y hy=>hm y (by simp [hy])) x m h;rw [Zid,Yak];omega
 have h1:=go ks (fun _ h=>h) _ _ h;rw [Zib,Yak];split
 . simp only [List.length_singleton]; omega
 . simp only [List.length_nil]; omega
theorem Ziq (l:List Bs):cellsS l=l.map encStr:=by rw [ZfC]; rfl
theorem Zir:Lib.compact (([]:List Bs).mergeSort fun x y=>decide (x<=y))=[]:=by rw [List.mergeSort_nil]; rfl
theorem Zis (l:List Bs):(Lib.compact l).length<=l.length:=Lib.compact_length_le l
theorem Zit {t:Tag} {w:World} {T:TypeId} {a:Option Addr} {c:Nat} {xs:List Value} (h:Row t 1 w T 1 (.slice a 0 c) 0 xs):StrsV (gh w) (.slice a 0 c) []:=by
 refine ⟨a,c,rfl,fun _=>rfl,Nat.zero_le _,?_,fun j s hj=>by simp at hj⟩;rcases h.own.2 with ⟨hv,_⟩|⟨g,cp,cur,hv,_,_,_,hm,_⟩
 . cases hv; exact Nat.zero_le _
 . cases hv; exact hm
theorem StrsV.void {h h':GH} {v:Value} (t:StrsV h v []):StrsV h' v []:=by obtain ⟨a,cap,hv,hn,hc,hm,_⟩:=t;exact ⟨a,cap,hv,hn,hc,hm,fun j s hj=>by simp at hj⟩
theorem StrsV.fresh {W:World} {n0 g n c:Nat} {m:List Bs} (t:StrsV (gh W) (.slice (some ⟨g,0,none⟩) n c) m) (hg:n0<=g):StrsV (gn n0 W) (.slice (some ⟨g,0,none⟩) n c) m:=by
 obtain ⟨a,cap,hv,hn,hc,hm,hx⟩:=t;refine ⟨a,cap,hv,hn,hc,hm,fun j s hj=>?_⟩;obtain ⟨b,off,ha,hcell⟩:=hx j s hj;refine ⟨b,off,ha,?_⟩;simp only [Yaq] at hv;obtain ⟨rfl,-,-⟩:=hv;cases ha;have e:gn n0 W g=gh W g:=by show (if n0<=g then W.heap[g]? else none)=_; rw [if_pos hg]; rfl
 unfold GH.cell at hcell |-;rw [e];exact hcell
theorem Ziu {w W W1:World} {t':Tag} {g n c:Nat} (hB:Below w.heap.size w W1) (hev:Evo T0 W t' W1 (·=1)) (ht:∀ b,(Value.slice (some ⟨g,0,none⟩) n c).ownBlock=some b->t' b=1) (hb:Below w.heap.size w W):w.heap.size<=g:=by
 rcases Nat.lt_or_ge g w.heap.size with h|h
 . have h1:=ht g rfl;have h2:=hev.tag g (Nat.lt_of_lt_of_le h hb.size);rw [h1] at h2;simp [T0] at h2
 . exact h
theorem Ziv (e:Ex) (v:Value) (w:World) (hF:Fine e) (hL:Lay (gh w)) (hE:EV (gh w) v e) (hc:check e=true) :
 Calls Tryz.prog 69 #[v] w fun r W=>Below w.heap.size w W/\∃ v',r = .returned v'/\StrsV (gn w.heap.size W) v' (namesM e):=by
 have hG:=Zel hF hc;obtain ⟨m,hm⟩:∃ m,chk e 1 128=some m:=Option.isSome_iff_exists.1 hc;have hfew:=Zip _ _ _ _ hm;have HM:=Zq (Zij hG);have HCK:=Zq (fun (v:Value) (W:World) (hl:Lay (gh W)) (he:EV (gh W) v e)=>Zdt e v W hF hl he);rw [hc] at HCK;clear hF hc hm hG;cases e with
 | mk op n s ks =>
 obtain ⟨kv,rfl,hK⟩:=hE;simp only [Ex.op,Ex.n,Ex.s,Ex.ks] at hK |-;obtain ⟨a,cap,rfl⟩:=hK.form;have HPN:=Zq (Zio (.mk op n s ks));obtain ⟨len,hlen⟩:∃ len,ks.length=len:=⟨_,rfl⟩;rw [hlen] at hK |-;obtain ⟨Q,hQ⟩:∃ Q,namesQ (.mk op n s ks)=Q:=⟨_,rfl⟩;obtain ⟨M,hMM⟩:∃ Q,namesM (.mk op n s ks)=Q:=⟨_,rfl⟩;have HB0:=Zq ((Yab w.heap.size w).alloc Zs (cEx op n s (.slice a len cap)));have HBOX:=Zq (Yac w (cEx op n s (.slice a len cap)));have HK:=Zq (hK.keep HB0.out);have HLA:=Zq (hL.below HB0.out);have HCK2:=Zq (HCK.out (exV op n s (.slice a len cap)) (w.alloc (cEx op n s (.slice a len cap))) HLA.out ⟨_,rfl,HK.out⟩);have HPN2:=Zq (fun W (hb:Below (w.alloc (cEx op n s (.slice a len cap))).heap.size (w.alloc (cEx op n s (.slice a len cap))) W)=>HPN.out (.slice a len cap) (.slice none 0 0) [] T0 W (by rw [Zaf]; exact HK.out.keep hb) (ZfG W _ 1) (by rw [hQ] at hfew |-; simp only [List.length_nil]; omega));unfold PNm at HPN;rw [hMM] at HM |-;rw [hQ] at hfew HM;simp only [Ex.op,Ex.n,Ex.s,Ex.ks,hQ,List.nil_append] at HPN2;clear HPN HCK hK hlen hQ hMM hL HK HLA;unfold exV strV at HCK2 HPN2 |-;unfold rowPost at HPN2;go_in;go_upto_region 1 with fail;generalize w.alloc (cEx op n s (.slice a len cap))=W0 at *;obtain ⟨⟨c0,c1,c2,c3⟩,-⟩:=ZdP HBOX.out;go_wp2_with fail;refine HCK2.out.mono ?_;rintro r W ⟨rfl,hb⟩;have HB1:=Zq hb;have HPN3:=Zq (HPN2.out W hb);clear c0 c1 c2 c3 hb HPN2;obtain ⟨⟨c0,c1,c2,c3⟩,-⟩:=ZdP ((HB1.out.block _ (Zim _ HBOX.out)).trans HBOX.out);go_wp2_with fail;refine HPN3.out.mono ?_;rintro r W1 ⟨t',lv,hev,rfl,hrow⟩;have HB2:=Zq (HB0.out.seq (HB1.out.seq (hev.toBelow (by omega))));have HEV:=Zq hev;clear c0 c1 c2 c3 hev;by_cases hne:Q=[]
 . subst hne;obtain ⟨a1,k1,rfl⟩:=hrow.form;have HM0:Hid (M=[]):=Zq (HM.out.symm.trans Zir);have HSV:Hid (StrsV (gh W1) (.slice a1 0 k1) []):=Zq (Zit hrow);have HS:=Zq (Tryz.slices_Sort_string_none a1 k1);have HC:=Zq (Tryz.slices_Compact_string_empty a1 k1);clear hrow HM HPN3 HEV;go_wp2_with fail;refine (HS.out _).mono ?_;rintro r W2 ⟨rfl,rfl⟩;go_wp2_with fail;refine (HC.out _).mono ?_;rintro r W3 ⟨rfl,rfl⟩;go_wp2;go_ret;exact ⟨HB2.out,_,rfl,by rw [HM0.out]; exact HSV.out.void⟩
 . have hq0:0<Q.length:=List.length_pos_iff.2 hne;rcases hrow.own.2 with ⟨_,hn⟩|⟨g,cp,cur,rfl,hbase,hb,h1,h2,h3,h4⟩
   . omega
   have hgW:w.heap.size<=g:=Ziu HB2.out HEV.out hrow.tag (HB0.out.seq HB1.out);have hglt:g<W1.heap.size:=(Yaa.1 hb).1;obtain ⟨ts,hts⟩:∃ ts,(Q.mergeSort fun x y=>decide (x<=y))=ts:=⟨_,rfl⟩;have htl:ts.length=Q.length:=(by rw [<-hts,List.length_mergeSort]);rw [hts] at HM;have hml:=Zis ts;rw [HM.out] at hml;have hmne:M≠[]:=fun h=>by have:=((Zii Q).2 (Q.head hne)).2 (List.head_mem hne);rw [hts,HM.out,h] at this;cases this
   have HH:Holds encStr W1 g 0 Q.toArray:=holds_of_block hb (by rw [Ziq] at h4; simpa using h4);have HSO:=Zq (Tryz.slices_Sort_string g 0 cp Q W1 HH hglt (by omega));rw [hts] at HSO;obtain ⟨ql,hql⟩:∃ n,Q.length=n:=⟨_,rfl⟩;have HOW:=Zq (fun n os=>ownsRow_sorted (n:=n) (os:=os) (ts:=ts) htl hbase hb h1 h2 h3);rw [hql] at HSO HOW htl hfew;rw [hql];have HBE:=Zq (fun n os=>HB2.out.grown (grownBy_sorted (n:=n) (os:=os) (g:=g) ts.toArray) HB2.out.size (fun k hk=>by cases hk; exact hgW));clear hrow HPN3 HEV hb h1 h2 h3 h4 HH hq0 hne;go_wp2_with fail;refine HSO.out.mono ?_;rintro r W2 ⟨rfl,n2,os2,hW2⟩;have hO2:=HOW.out n2 os2;rw [<-hW2] at hO2;have HB3:=Zq (HBE.out n2 os2);rw [<-hW2] at HB3;have hO3:=hO2;obtain ⟨g',cp',hge,-,-,hcp,-,-,HH2⟩:=Lib.holds_of_ownsRow hO2 (by simp);simp only [Yaq,Yai,Ybd,and_true,true_and] at hge;obtain ⟨rfl,rfl⟩:=hge;have HCO:=Zq (Tryz.slices_Compact_string g 0 cp ts W2 HH2 (by omega) (by omega));rw [HM.out,htl] at HCO;have HO3:=Zq (fun q=>Lib.ownsRow_putRow (q:=q) (ys:=M++List.replicate (ql - M.length) []) (k:=M.length) hO3 (by rw [Yak,List.length_replicate]; omega) (by omega));clear hW2 hO2 hO3 HH2 HOW HSO HBE;go_wp2_with fail;refine HCO.out.mono ?_;rintro r W3 ⟨rfl,q,hW3⟩;have hO4:=HO3.out q;rw [<-hW3,List.take_left,<-Ziq] at hO4;have HB4:=Zq (Lib.below_putRow (enc:=encStr) (q:=q) (d:=(M++List.replicate (ql - M.length) []).toArray) HB3.out hgW);rw [<-hW3] at HB4;have HR4:=Zq (NmV.ofRow (t:=fun _=>1) (l:=M) ⟨hO4,fun _ _=>rfl⟩ hmne);clear hW3 hO4;go_wp2;go_ret;exact ⟨HB4.out,_,rfl,HR4.out.strs.fresh hgW⟩
end Go.Proofs.YtikannmgllejfaaGreatDoor
