/- The contracts of Go's library that the walks go by, and what. -/
import Derived.Test.YtikannmgllejfaaGreatDoorKPl
import Derived.Test.YtikannmgllejfaaGreatDoorShelf
import Derived.WalkKit
import Derived.Handy
import Derived.WalkLawsBesides
import Derived.Lib.OthersKept
import Derived.Lib.FrozenHead2
import Derived.Shelf.Strings.BuilderK
set_option maxHeartbeats 4000000
set_option maxRecDepth 100000
set_option linter.all false
namespace Go.Proofs.YtikannmgllejfaaGreatDoor
open Go.RowKit Pal

structure Lay (h:GH):Prop where
 first:∀ c,c<256->h.cell 0 c=some (.int .u8 (Lib.firstT c))
 acc:∀ i,i<16->h.cell 1 (2*i)=some (.int .u8 (Lib.accLo i))/\h.cell 1 (2*i+1)=some (.int .u8 (Lib.accHi i))
 rng:∃ tp p,h.cell 3 0=some (.iface tp p)
theorem Lay.mono {h h':GH} (l:Lay h) (k:h.le h'):Lay h' :=
 ⟨fun c hc=>k.cell (l.first c hc),fun i hi=>⟨k.cell (l.acc i hi).1,k.cell (l.acc i hi).2⟩,by obtain ⟨tp,p,e⟩:=l.rng; exact ⟨tp,p,k.cell e⟩⟩
theorem Lay.tabs {w:World} (l:Lay (gh w)):Lib.Utf8Tabs 0 1 w :=
 ⟨fun c hc=>by rw [<-Zad]; exact l.first c hc,fun i hi=>⟨by rw [<-Zad]; exact (l.acc i hi).1,by rw [<-Zad]; exact (l.acc i hi).2⟩⟩
theorem Lay.below {w w':World} (l:Lay (gh w)) (hb:Below w.heap.size w w'):Lay (gh w'):=l.mono (Zah hb)
def strV (l:Bs):Value := .string ⟨l.toArray⟩
theorem ZbG (s:ByteArray):strV s.data.toList = .string s:=by unfold strV; simp
theorem ZbH (s:ByteArray) (w:World) (hs:s.data.toList≠[]) (hL:Lay (gh w)) :
 Calls Tryz.prog 203 #[.string s] w fun e w'=>e = .returned (.tuple #[.int .i32 (rn s.data.toList),.int .i64 (wd s.data.toList)])/\Below w.heap.size w w':=by refine (Tryz.utf8_DecodeRuneInString s w hL.tabs).mono ?_;rintro e w' ⟨rfl,hb⟩;have hz:s.size≠0:=fun h=>hs (Yal (by rw [<-h]; rfl));refine ⟨?_,hb⟩;unfold Lib.decodeGo;rw [if_neg hz,ZaK,List.drop_zero];rfl
theorem ZbI (s:ByteArray) (w:World) (hs:s.size<9223372036854775807) :
 Calls Tryz.prog 163 #[.string s] w fun e w'=>e = .returned (.int .i64 (cnt s.data.toList))/\Below w.heap.size w w':=by refine (Tryz.utf8_RuneCountInString s w hs).mono ?_;rintro e w' ⟨rfl,pos,rfl⟩;exact ⟨by rw [Zbj],(Yab _ _).alloc Zs _⟩
theorem ZbJ (s:ByteArray) (w:World) (hs:s.size<=9223372036854775807) (hL:Lay (gh w)) :
 Calls Tryz.prog 162 #[.string s] w fun e w'=>e = .returned (.bool (val s.data.toList))/\Below w.heap.size w w':=by refine (Tryz.utf8_ValidString s w hs hL.tabs).mono ?_;rintro e w' ⟨rfl,hb⟩;exact ⟨by rw [Zbh],hb⟩
theorem ZbK (s p:ByteArray) (w:World) :
 Calls Tryz.prog 118 #[.string s,.string p] w fun e w'=>e = .returned (.bool (p.data.toList.isPrefixOf s.data.toList))/\w=w':=by refine (Tryz.strings_HasPrefix s p w).mono ?_;rintro e w' ⟨rfl,rfl⟩;exact ⟨rfl,rfl⟩
theorem ZbL (s:ByteArray) (c:Int) (w:World) :
 Calls Tryz.prog 119 #[.string s,.int .u8 c] w fun e w'=>e = .returned (.int .i64 (Lib.indexByte s.data.toList c.toNat.toUInt8))/\w=w':=by refine (Tryz.strings_IndexByte s c w).mono ?_;rintro e w' ⟨rfl,rfl⟩;exact ⟨rfl,rfl⟩
theorem ZbM (s:ByteArray) (hs:s.size<=9223372036854775806) (v:Int) (h:Lib.parseIntB 64 s.data.toList = .ok v) (w:World) :
 Calls Tryz.prog 116 #[.string s,.int .i64 10,.int .i64 64] w fun e w'=>e = .returned (.tuple #[.int .i64 v,.nilIface])/\Below w.heap.size w w':=by
 refine (Tryz.strconv_ParseInt_10_at64_ok s hs v h w).mono ?_;rintro e w' ⟨rfl,h⟩;refine ⟨rfl,?_⟩;rcases h with rfl|⟨t,rfl⟩
 . exact Yab _ _
 . unfold Lib.bytesWorld;exact Lib.below_freeze (((Yab _ w).drew).alloc Zs _) Zs _
theorem ZbN (s:ByteArray) (hs:s.size<=281474976710656) (h:Lib.parseIntB 64 s.data.toList = .range) (w:World) (hL:Lay (gh w)) :
 Calls Tryz.prog 116 #[.string s,.int .i64 10,.int .i64 64] w fun e w'=>(∃ n t p,e = .returned (.tuple #[.int .i64 n,.iface t p]))/\Below w.heap.size w w':=by obtain ⟨tp,p,hc⟩:=hL.rng;refine (Tryz.strconv_ParseInt_10_at64_range s hs h (.iface tp p) w (by rw [<-Zad]; exact hc) (.inr ⟨tp,p,rfl⟩)).mono ?_;rintro e w' ⟨N,rfl,_,_,hb⟩;exact ⟨⟨_,_,_,rfl⟩,hb⟩
theorem ZbO:(Tryz.prog.info? 222).map (·.size)=some 2:=by kernel_rfl
theorem ZbP:liesAt Tryz.prog Tryz.prog.depth 222 (2 / Tryz.prog.cellsOf 222) 0 222 1=true:=by kernel_rfl
theorem ZbQ (b:Nat) (w:World) (h0:w.cell? ⟨b,0,none⟩=some (.pointer (some ⟨b,0,none⟩))) :
 Calls Tryz.prog 212 #[.pointer (some ⟨b,0,none⟩)] w fun e w'=>e = .returned (.tuple #[])/\w'=w:=by obtain ⟨j,hj,_⟩:=Option.map_eq_some_iff.1 ZbO;go_in;go_wp2;rw [Lib.run_neq_ptr_same w _ Tryz.underlying219 hj];go_wp2;go_end0;exact ⟨rfl,rfl⟩
theorem ZbR (b:Nat) (w:World) (h0:w.cell? ⟨b,0,none⟩=some (.pointer none)) (hsh:w.shape? b=some (222,2)) (hfz:w.frozen? ⟨b,0,none⟩=false) :
 Calls Tryz.prog 212 #[.pointer (some ⟨b,0,none⟩)] w fun e w'=>e = .returned (.tuple #[])/\w'=w.setCell ⟨b,0,none⟩ (.pointer (some ⟨b,0,none⟩)):=by obtain ⟨j,hj,hjs⟩:=Option.map_eq_some_iff.1 ZbO;go_in;go_wp2;rw [Lib.run_to_unsafe w ⟨b,0,none⟩ Tryz.underlying219 Tryz.underlying281 hj (by rw [hjs]; decide) hsh (Nat.zero_lt_succ 1)];simp only [Result.andThen];rw [Oper.upon_value];go_wp2;rw [run_callFunc_extern Tryz.func229 (by kernel_rfl) (by kernel_rfl) (by kernel_rfl) (e:=Extern.AbiNoEscape.same) (by kernel_rfl)];rw [Lib.run_noEscape];simp only [Result.andThen];rw [Oper.upon_value];go_wp2;rw [Lib.run_from_unsafe w ⟨b,0,none⟩ Tryz.underlying281 Tryz.underlying219 hj hsh ZbP];simp only [Result.andThen];rw [Oper.upon_value];go_wp2;go_end0;exact ⟨rfl,rfl⟩
theorem ZbS (B b:Nat) (bs:List Value) (w:World) (h:Lib.IsBuilderF 222 5 B b bs w) :
 Calls Tryz.prog 212 #[.pointer (some ⟨b,0,none⟩)] w fun e w'=>e = .returned (.tuple #[])/\(Lib.BuilderAtF 222 5 B b (.pointer (some ⟨b,0,none⟩)) bs w'/\Below B w w'/\Lib.OthersKept 5 (some b) w w'):=by
 rcases h with h|h
 . refine (ZbR b w h.cell0 h.shape h.frozen0).mono ?_;rintro e w' ⟨rfl,rfl⟩;exact ⟨rfl,h.used _,(Yab B w).setCell (p:=⟨b,0,none⟩) h.1 _,(Lib.OthersKept.refl _ _ w).setCell ⟨b,0,none⟩ rfl _⟩
 . refine (ZbQ b w h.cell0).mono ?_;rintro e w' ⟨rfl,rfl⟩;exact ⟨rfl,h,Yab B _,Lib.OthersKept.refl _ _ _⟩
theorem ZbT (B b:Nat) (bs:List Value) (r:Int) (hr0 : -2147483648<=r) (hr1:r<=2147483647) (w:World) (h:Lib.IsBuilderF 222 5 B b bs w) (hlen:bs.length+4<=140737488355328) (_hBw:B<=w.heap.size) :
 Calls Tryz.prog 169 #[.pointer (some ⟨b,0,none⟩),.int .i32 r] w fun e w'=>e = .returned (.tuple #[.int .i64 (Lib.runeCells r).length,.nilIface])/\(Lib.IsBuilderF 222 5 B b (bs++Lib.runeCells r) w'/\Below B w w'/\Lib.OthersKept 5 (some b) w w'):=by
 have hk4:=Lib.runeCells_le r;go_in;go_wp2_with fail;refine (ZbS B b bs _ h).mono ?_;rintro e w1 ⟨rfl,h1,hb1,hk1⟩;obtain ⟨hB,v,hbk,hown,hne⟩:=h1;obtain ⟨ao,cap,rfl⟩:∃ ao cap,v = .slice ao bs.length cap:=by
  rcases hown.2 with ⟨hv,h0⟩|⟨g,cap,cur,fz,hv,_⟩
  . exact ⟨none,0,by rw [hv,h0]⟩
  . exact ⟨_,_,hv⟩
 have c0:w1.cell? ⟨b,0,none⟩=some (.pointer (some ⟨b,0,none⟩)):=by rw [Lib.cell_of_heap hbk]; rfl
 have c1:w1.cell? ⟨b,1,none⟩=some (.slice ao bs.length cap):=by rw [Lib.cell_of_heap hbk]; rfl
 go_wp2_with fail;refine (Tryz.utf8_AppendRune_row B _ bs.length bs r hr0 hr1 _ hown hlen (by have:=hb1.size; omega)).mono ?_;rintro e w2 ⟨v',rfl,hown',o,hgrow⟩;have hlt:b<w1.heap.size:=(Yaa.1 hbk).1;have hb2:w2.heap[b]?=some (.cells #[.pointer (some ⟨b,0,none⟩),.slice ao bs.length cap] 222 (0,0)):=by rw [hgrow.block b (by simp; omega) (fun e=>hne e.symm),Yah w1 _ b hlt];exact hbk
 have d0:w2.cell? ⟨b,0,none⟩=some (.pointer (some ⟨b,0,none⟩)):=by rw [Lib.cell_of_heap hb2]; rfl
 have d1:w2.cell? ⟨b,1,none⟩=some (.slice ao bs.length cap):=by rw [Lib.cell_of_heap hb2]; rfl
 have f1:w2.frozen? ⟨b,1,none⟩=false:=Lib.frozen_of_heap hb2 1;obtain ⟨g,cap',rfl⟩:∃ g cap',v' = .slice (some ⟨g,0,none⟩) (bs.length+(Lib.runeCells r).length) cap':=by
  rcases hown'.2 with ⟨_,h0⟩|⟨g,cap',cur,fz,hv,_⟩
  . omega
  . exact ⟨g,cap',hv⟩
 go_wp2;go_ret2;refine ⟨?_,.inr ?_,?_,((hk1.alloc _).grown hgrow (Lib.ownsRowF_kind (hown.alloc _))).setCell ⟨b,1,none⟩ rfl _⟩
 . have e:((bs.length:Int)+((Lib.runeCells r).length:Int) - (bs.length:Int))=((Lib.runeCells r).length:Int):=(by omega);simp [e]
 . exact Lib.BuilderAtF.put (T:=222) (e:=5) hB hb2 (bs':=bs++Lib.runeCells r) (by simpa using hown') (by decide)
 . exact ((hb1.alloc (by have:=hb1.size; omega) _).grown hgrow (by have:=hb1.size; simp; omega) (fun k hk=>(hown.lt k hk).1)).setCell (p:=⟨b,1,none⟩) hB _
def SlV (h:GH) (v:Value) (n sz:Nat) (f:Nat->List Value):Prop :=
 ∃ a cap,v = .slice a n cap/\(a=none->n=0/\cap=0)/\n<=cap/\cap<=maxLen/\∀ j c x,j<n->(f j)[c]?=some x->∃ b off,a=some ⟨b,off,none⟩/\h.cell b (off+(sz*j+c))=some x
theorem SlV.mono {h h':GH} {v:Value} {n sz:Nat} {f:Nat->List Value} (s:SlV h v n sz f) (l:h.le h'):SlV h' v n sz f:=by obtain ⟨a,cap,hv,hn,hc,hm,hx⟩:=s;exact ⟨a,cap,hv,hn,hc,hm,fun j c x hj hf=>let ⟨b,off,ha,hcc⟩:=hx j c x hj hf; ⟨b,off,ha,l.cell hcc⟩⟩
theorem ZbU {α:Type} (g:α->List Value) (sz:Nat) (hg:∀ a,(g a).length=sz):∀ (ts:List α) (j c:Nat) (t:α),ts[j]?=some t->c<sz->(ts.flatMap g)[sz*j+c]?=(g t)[c]?:=by
 intro ts;induction ts with
 | nil=>intro j c t h; simp at h
 | cons x xs ih =>
  intro j c t h hc;rw [List.flatMap_cons];cases j with
  | zero =>simp only [List.getElem?_cons_zero,Yai] at h;subst h;rw [Nat.mul_zero,Nat.zero_add,List.getElem?_append_left (by rw [hg]; exact hc)]
  | succ j =>simp only [List.getElem?_cons_succ] at h;rw [List.getElem?_append_right (by rw [hg,Nat.mul_succ]; omega),hg,show sz*(j+1)+c - sz=sz*j+c by rw [Nat.mul_succ]; omega];exact ih j c t h hc
theorem ZbV {α:Type} (g:α->List Value) (sz:Nat) (hg:∀ a,(g a).length=sz) (ts:List α):(ts.flatMap g).length=ts.length*sz:=by
 induction ts with
 | nil=>simp
 | cons x xs ih=>rw [List.flatMap_cons,Yak,ih,hg,List.length_cons,Nat.succ_mul]; omega
theorem SlV.ofRow {α:Type} {t:Tag} {k:Nat} {w:World} {e:TypeId} {sz:Nat} {v:Value} {n:Nat} (g:α->List Value) (ts:List α) (d:α) (hsz:0<sz) (hg:∀ a,(g a).length=sz)
 (h:Row t k w e sz v n (ts.flatMap g)):SlV (gh w) v ts.length sz (fun j=>g (ts.getD j d)):=by
 have hn:n=ts.length:=by have h1:=h.len;rw [ZbV g sz hg] at h1;exact (Nat.eq_of_mul_eq_mul_right hsz h1).symm
 subst hn;rcases h.own.2 with ⟨rfl,hn⟩|⟨b,cap,cur,rfl,hb,hgg,hn,hc,hs,ht⟩
 . refine ⟨none,0,by rw [hn],fun _=>⟨hn,rfl⟩,by omega,by simp [maxLen],fun j c x hj=>by omega⟩
 . refine ⟨some ⟨b,0,none⟩,cap,rfl,fun h=>(by cases h),hn,hc,fun j c x hj hx=>⟨b,0,rfl,?_⟩⟩;have hcs:c<sz:=(by have:=(Yag.1 hx).1;rw [hg] at this; exact this);have hj':ts[j]?=some (ts.getD j d):=(by rw [Yau,Yad hj]; rfl);have h2:=ZbU g sz hg ts j c _ hj' hcs;rw [hx] at h2;rw [Zad,Nat.zero_add,cell_of_row w b _ cur e (0,0) hgg];rw [<-ht,List.getElem?_take] at h2;split at h2
   . simpa using h2
   . cases h2
theorem SlV.ofRowV {α:Type} {p:Nat->Bool} {t:Tag} {k:Nat} {w:World} {e:TypeId} {sz:Nat} {v:Value} {n:Nat} (g:α->List Value) (ts:List α) (d:α) (hsz:0<sz) (hg:∀ a,(g a).length=sz)
 (h:Row t k w e sz v n (ts.flatMap g)) (hp:p k=true):SlV (vw p t w) v ts.length sz (fun j=>g (ts.getD j d)):=by
 obtain ⟨a,cap,hv,h1,h2,h3,h4⟩:=SlV.ofRow g ts d hsz hg h;refine ⟨a,cap,hv,h1,h2,h3,fun j c x hj hx=>?_⟩;obtain ⟨b,off,rfl,hc⟩:=h4 j c x hj hx;refine ⟨b,off,rfl,?_⟩;have ht:t b=k:=h.tag b (by rw [hv]; rcases h.own.2 with ⟨hv2,_⟩|⟨g',cap',cur,hv2,_⟩<;>(rw [hv] at hv2; cases hv2; try rfl));rw [Zad] at hc;unfold GH.cell vw;rw [if_pos (by rw [ht]; exact hp)];unfold World.cell? at hc;cases e:w.heap[b]? with
 | none=>simp [e] at hc
 | some o=>cases o<;>simp_all
end Go.Proofs.YtikannmgllejfaaGreatDoor
namespace Pal
open Go Go.RowKit
theorem Evo.iterAt {t t':Tag} {w w':World} {K:Nat->Prop} (h:Evo t w t' w' K) (k:Nat) (s:ByteArray) (p:Nat) (hk:K (t' k)):Evo t w t' (w'.iterAt k s p) K :=
 h.trans ⟨rfl,rfl,rfl,by rw [Lib.iterAt_size]; exact Nat.le_refl _,fun _ _=>rfl,fun b _ hn=>Lib.iterAt_other w' k b s p (fun e=>hn (by rw [e]; exact hk))⟩
theorem Evo.call {t t':Tag} {w w' w'':World} {K:Nat->Prop} (h:Evo t w t' w' K) (hb:Below w'.heap.size w' w''):Evo t w t' w'' K :=
 h.trans (Evo.below hb (fun _ _=>rfl))
theorem Row.call {t:Tag} {k:Nat} {w w':World} {e:TypeId} {sz:Nat} {v:Value} {n:Nat} {xs:List Value} (h:Row t k w e sz v n xs) (hb:Below w.heap.size w w'):Row t k w' e sz v n xs :=
 h.keep (K:=fun _=>False) (Evo.below hb (fun _ _=>rfl)) (fun h=>h)
theorem Ybb {B:Nat} {a w:World} (h:Below B a w) (q:Nat):Below B a (w.drewN q):=⟨h.os,h.tape,h.output,h.size,h.block⟩
end Pal
