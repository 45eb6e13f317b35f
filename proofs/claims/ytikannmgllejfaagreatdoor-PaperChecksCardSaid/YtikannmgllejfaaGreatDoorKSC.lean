/- The walk of (*schema. -/
import Derived.Test.YtikannmgllejfaaGreatDoorKT3
import Derived.Test.YtikannmgllejfaaGreatDoorKVe
import Derived.Test.YtikannmgllejfaaGreatDoorKVp
import Derived.Deep.RegionHeld3
import Derived.Deep.DrawnRows
set_option maxHeartbeats 8000000
set_option maxRecDepth 1000000
set_option linter.all false
namespace Go.Proofs.YtikannmgllejfaaGreatDoor
open Go.RowKit Pal
theorem ZhC (h:GH):StrsV h (.slice none 0 0) []:=⟨none,0,rfl,fun _=>rfl,by simp,by simp [maxLen],fun j x hx=>by simp at hx⟩
def typePost (r:Int × Int) (w:World) (e:Ending) (w':World):Prop:=e = .returned (.tuple #[.int .i64 r.1,.int .i64 r.2])/\Below w.heap.size w w'
theorem ZhD (e:Ex) (v nv tv:Value) (names:List Bs) (types:List Int) (w:World) (hF:Fine e) (hL:Lay (gh w)) (hE:EV (gh w) v e) (hN:StrsV (gh w) nv names) (hT:IntsV (gh w) tv types) :
 Calls Tryz.prog 68 #[v,nv,tv] w (typePost (typeOf e names types) w):=by
 obtain ⟨kv,rfl,hK⟩:=hE;obtain ⟨a,cap,rfl⟩:=hK.form;have hb:=(Yab w.heap.size w).alloc Zs (cEx e.op e.n e.s (.slice a e.ks.length cap));have hck:=Zdt e (exV e.op e.n e.s (.slice a e.ks.length cap)) _ hF (hL.below hb) ⟨_,rfl,hK.keep hb⟩;unfold exV strV at hck;have HC:=Zq hck;have HBB:=Zq hb;clear hck hb;unfold exV strV;go_in;go_wp2_with fail;refine HC.out.mono ?_;rintro r W1 ⟨rfl,hb1⟩;have hb2:=HBB.out.seq hb1;have hblk:W1.heap[w.heap.size]?=some (cEx e.op e.n e.s (.slice a e.ks.length cap)):=by rw [hb1.block _ (by simp)]; exact Yac w _
 obtain ⟨c0,c1,c2,c3⟩:=Zc7 hblk;cases hc:check e with
 | false =>have HT:Hid (typeOf e names types=(0,6)):=Zq (by unfold typeOf; rw [hc]; rfl);clear hc hb1 HC hblk;go_wp2;go_ret2;refine ⟨?_,hb2⟩;rw [HT.out]; rfl
 | true =>have hA:=Zfa hc;have ho:=Zfl names types nv tv e (.slice a e.ks.length cap) W1 hA (hN.mono (Zah hb2)) (hT.mono (Zah hb2)) (hK.keep hb2);unfold exV strV at ho;have HO:=Zq ho;have HT:Hid (typeOf e names types=(valE (typ names types e),errE (typ names types e))):=Zq (by unfold typeOf; rw [hc]; cases typ names types e<;>rfl);clear hc hb1 HC hblk ho;go_wp2_with fail;refine HO.out.mono ?_;rintro r W2 ⟨rfl,hb3⟩;have hb4:=hb2.seq hb3;go_wp2;go_ret2;refine ⟨?_,hb4⟩;rw [HT.out]; rfl
theorem ZhE {l:Bs} {e:Ex} (h:parseM l = .ok e):Fine e:=by
 unfold parseM at h;by_cases hl:400<l.length
 . rw [if_pos hl] at h; cases h
 rw [if_neg hl] at h;cases hx:lexAll l with
 | error p=>rw [hx] at h; cases h
 | ok ts =>
  rw [hx] at h;simp only at h;cases hr:readL ts with
  | error q=>rw [hr] at h; cases h
  | ok e' =>
   rw [hr] at h;simp only at h;by_cases hc:check e'=true
   . rw [if_pos hc] at h; cases h;exact Zhw (Zhn (by omega) hx).2.2 hr
   . rw [if_neg hc] at h; cases h
theorem ZhF {l:Bs} {e:Ex} (h:parseM l = .ok e):check e=true:=by
 unfold parseM at h;by_cases hl:400<l.length
 . rw [if_pos hl] at h; cases h
 rw [if_neg hl] at h;cases hx:lexAll l with
 | error p=>rw [hx] at h; cases h
 | ok ts =>
  rw [hx] at h;simp only at h;cases hr:readL ts with
  | error q=>rw [hr] at h; cases h
  | ok e' =>
   rw [hr] at h;simp only at h;by_cases hc:check e'=true
   . rw [if_pos hc] at h; cases h; exact hc
   . rw [if_neg hc] at h; cases h
theorem ZhH (s:ByteArray) (p:Nat) (k:Int) (w:World) (hm:s.size<=9223372036854775807) (hp:parseM s.data.toList = .error (p,k)) (hL:Lay (gh w)) :
 Calls Tryz.prog 67 #[.string s] w fun r w'=>Below w.heap.size w w'/\r = .returned (.tuple #[.agg #[.int .i64 0,.int .i64 0,.string ⟨#[]⟩,.slice none 0 0],.int .i64 p,.int .i64 k]):=by refine (ZhB s w hm hL).mono ?_;rintro r w' ⟨hb,h⟩;rw [hp] at h;exact ⟨hb,h⟩
def yesPost (w:World) (e:Ending) (w':World):Prop:=e = .returned (.bool true)/\Below w.heap.size w w'
attribute [local go_sem ↓] Go.wp_at_zero Go.wp_at_succ
def Rd (g off:Nat) (cur0:Array Value) (cs:List Value) (W:World):Prop :=
 ∃ cur:Array Value,W.heap[g]?=some (.cells cur 87 (0,0))/\cur.size=cur0.size/\(∀ j v,cs[j]?=some v->cur[off+j]?=some v)/\∀ j,¬ (off<=j/\j<off+21)->cur[j]?=cur0[j]?
theorem Rd.cell {g off:Nat} {cur0:Array Value} {cs:List Value} {W:World} (h:Rd g off cur0 cs W) {j:Nat} {v:Value} (hj:cs[j]?=some v):W.cell? ⟨g,off+j,none⟩=some v/\W.frozen? ⟨g,off+j,none⟩=false:=by obtain ⟨cur,h1,_,h3,_⟩:=h;have:=h3 j v hj;exact ⟨by simp [World.cell?,h1,this],by simp [World.frozen?,h1]⟩
theorem Rd.lt {g off:Nat} {cur0:Array Value} {cs:List Value} {W:World} (h:Rd g off cur0 cs W):g<W.heap.size:=by obtain ⟨cur,h1,_⟩:=h;exact (Yaa.1 h1).1
theorem Rd.keep {g off:Nat} {cur0:Array Value} {cs:List Value} {W W':World} (h:Rd g off cur0 cs W) (hb:Below W.heap.size W W'):Rd g off cur0 cs W':=by have hl:=h.lt;obtain ⟨cur,h1,r⟩:=h;exact ⟨cur,by rw [hb.block g hl]; exact h1,r⟩
theorem Rd.set {g off:Nat} {cur0:Array Value} {cs:List Value} {W:World} (h:Rd g off cur0 cs W) {j:Nat} (hj:j<21) (v:Value):Rd g off cur0 (cs.set j v) (W.setCell ⟨g,off+j,none⟩ v):=by
 obtain ⟨cur,h1,h2,h3,h4⟩:=h;refine ⟨cur.setIfInBounds (off+j) v,by simp [World.setCell,Yap,h1],by simpa using h2,fun i x hx=>?_,fun i hi=>?_⟩
 . rw [List.getElem?_set] at hx;by_cases e:j=i
   . subst e;rw [if_pos rfl] at hx;by_cases hl:j<cs.length
     . rw [if_pos hl] at hx;have:=h3 j cs[j] (Yad hl);have hb:=(Yaa.1 this).1;rw [Array.getElem?_setIfInBounds,if_pos rfl,if_pos hb]; exact hx
     . rw [if_neg hl] at hx; cases hx
   . rw [if_neg e] at hx;rw [Array.getElem?_setIfInBounds,if_neg (by omega)]; exact h3 i x hx
 . rw [Array.getElem?_setIfInBounds,if_neg (by omega)]; exact h4 i hi
theorem ZhJ {l:Bs} {p:Nat} {k:Int} (h:parseM l = .error (p,k)):k=5\/k=6\/k=7:=by
 unfold parseM at h;split at h
 . simp only [Except.error.injEq,Yaw] at h; omega
 . split at h
   . simp only [Except.error.injEq,Yaw] at h; omega
   . split at h
     . simp only [Except.error.injEq,Yaw] at h; omega
     . split at h
       . cases h
       . simp only [Except.error.injEq,Yaw] at h; omega
theorem fdA (f:Fd) (b c:OV) (nd:Value):(fdCells f none b c nd)[5]?=some (.int .i64 0)/\(fdCells f none b c nd)[6]?=some (.int .i64 0)/\(fdCells f none b c nd)[7]?=some (.string ⟨#[]⟩)/\(fdCells f none b c nd)[8]?=some (.slice none 0 0)/\(fdCells f none b c nd)[17]?=some (.bool false):=by cases b<;>cases c<;>exact ⟨rfl,rfl,rfl,rfl,rfl⟩
theorem ZhK (f:Fd) (b c:OV) (nd:Value) (x:Ex × Value):((((((fdCells f none b c nd).set 5 (.int .i64 x.1.op)).set (5+1) (.int .i64 x.1.n)).set (5+2) (.string ⟨x.1.s.toArray⟩)).set (5+3) x.2).set 17 (.bool true))=fdCells f (some x) b c nd/\((((((fdCells f none b c nd).set 17 (.bool true)).set 5 (.int .i64 x.1.op)).set (5+1) (.int .i64 x.1.n)).set (5+2) (.string ⟨x.1.s.toArray⟩)).set (5+3) x.2)=fdCells f (some x) b c nd:=by cases b<;>cases c<;>exact ⟨rfl,rfl⟩
theorem fdB (f:Fd) (a c:OV) (nd:Value):(fdCells f a none c nd)[9]?=some (.int .i64 0)/\(fdCells f a none c nd)[10]?=some (.int .i64 0)/\(fdCells f a none c nd)[11]?=some (.string ⟨#[]⟩)/\(fdCells f a none c nd)[12]?=some (.slice none 0 0)/\(fdCells f a none c nd)[18]?=some (.bool false):=by cases a<;>cases c<;>exact ⟨rfl,rfl,rfl,rfl,rfl⟩
theorem ZhL (f:Fd) (a c:OV) (nd:Value) (x:Ex × Value):((((((fdCells f a none c nd).set 9 (.int .i64 x.1.op)).set (9+1) (.int .i64 x.1.n)).set (9+2) (.string ⟨x.1.s.toArray⟩)).set (9+3) x.2).set 18 (.bool true))=fdCells f a (some x) c nd/\((((((fdCells f a none c nd).set 18 (.bool true)).set 9 (.int .i64 x.1.op)).set (9+1) (.int .i64 x.1.n)).set (9+2) (.string ⟨x.1.s.toArray⟩)).set (9+3) x.2)=fdCells f a (some x) c nd:=by cases a<;>cases c<;>exact ⟨rfl,rfl⟩
theorem fdC (f:Fd) (a b:OV) (nd:Value):(fdCells f a b none nd)[13]?=some (.int .i64 0)/\(fdCells f a b none nd)[14]?=some (.int .i64 0)/\(fdCells f a b none nd)[15]?=some (.string ⟨#[]⟩)/\(fdCells f a b none nd)[16]?=some (.slice none 0 0)/\(fdCells f a b none nd)[19]?=some (.bool false):=by cases a<;>cases b<;>exact ⟨rfl,rfl,rfl,rfl,rfl⟩
theorem ZhM (f:Fd) (a b:OV) (nd:Value) (x:Ex × Value):((((((fdCells f a b none nd).set 13 (.int .i64 x.1.op)).set (13+1) (.int .i64 x.1.n)).set (13+2) (.string ⟨x.1.s.toArray⟩)).set (13+3) x.2).set 19 (.bool true))=fdCells f a b (some x) nd/\((((((fdCells f a b none nd).set 19 (.bool true)).set 13 (.int .i64 x.1.op)).set (13+1) (.int .i64 x.1.n)).set (13+2) (.string ⟨x.1.s.toArray⟩)).set (13+3) x.2)=fdCells f a b (some x) nd:=by cases a<;>cases b<;>exact ⟨rfl,rfl⟩
def OvN (n:Nat) (W:World) (o:OV):Prop:=∀ x,o=some x->KV (gn n W) x.2 x.1.ks/\Fine x.1
theorem OvN.none (n:Nat) (W:World):OvN n W none:=fun x h=>by cases h
theorem OvN.but {n g:Nat} {W W':World} {o:OV} (h:OvN n W o) (hb:But g W W') (hg:g<n):OvN n W' o:=fun x hx=>⟨(h x hx).1.mono (ZdJ fun b hp hl=>⟨hp,hb.block b hl (by omega)⟩),(h x hx).2⟩
theorem ZhN (ns:List Bs) (ts:List Int) (t:Int):putM ns ts t [] = .ok none:=rfl
theorem ZhO {ns:List Bs} {ts:List Int} {t:Int} {x:Bs} {p:Nat} {k:Int} (hx:x≠[]) (h:parseM x = .error (p,k)):putM ns ts t x = .error k:=by unfold putM; rw [if_neg hx,h]
theorem ZhP {ns:List Bs} {ts:List Int} {want t k:Int} {x:Bs} {e:Ex} (hx:x≠[]) (h:parseM x = .ok e) (ht:typeOf e ns ts=(t,k)) (hk:k≠0):putM ns ts want x = .error k:=by unfold putM; rw [if_neg hx,h]; simp only [ht]; rw [if_pos hk]
theorem ZhQ {ns:List Bs} {ts:List Int} {want t:Int} {x:Bs} {e:Ex} (hx:x≠[]) (h:parseM x = .ok e) (ht:typeOf e ns ts=(t,0)) (hk:t≠want):putM ns ts want x = .error 8:=by unfold putM; rw [if_neg hx,h]; simp only [ht]; rw [if_neg (by simp),if_pos hk]
theorem ZhR {ns:List Bs} {ts:List Int} {want:Int} {x:Bs} {e:Ex} (hx:x≠[]) (h:parseM x = .ok e) (ht:typeOf e ns ts=(want,0)):putM ns ts want x = .ok (some e):=by unfold putM; rw [if_neg hx,h]; simp only [ht]; rw [if_neg (by simp),if_neg (by simp)]
theorem ZhS (a b c:ByteArray) (k:Nat) (hk:k<3) (W:World):(Instr.index 116 (.agg #[.string a,.string b,.string c]) (.int .i64 k)).run Tryz.prog W = .ok (.string (if k=0 then a else if k=1 then b else c)) W:=by rcases (by omega:k=0\/k=1\/k=2) with rfl|rfl|rfl;all_goals simp only [Instr.index,asIntOf];simp [run_underlying Tryz.underlying116,Tryz.sizeOf9,Tryz.isAgg9,part,Result.andThen]
theorem ZhT (s:ByteArray) (e:Ex) (w:World) (hm:s.size<=9223372036854775807) (hp:parseM s.data.toList = .ok e) (hL:Lay (gh w)) :
 Calls Tryz.prog 67 #[.string s] w fun r w'=>Below w.heap.size w w'/\∃ a cap,r = .returned (.tuple #[.agg #[.int .i64 e.op,.int .i64 e.n,.string ⟨e.s.toArray⟩,.slice a e.ks.length cap],.int .i64 0,.int .i64 0])/\KV (gn w.heap.size w') (.slice a e.ks.length cap) e.ks:=by refine (ZhB s w hm hL).mono ?_;rintro r w' h;unfold parsePost at h;rw [hp] at h;obtain ⟨hb,v,rfl,kv,rfl,hk⟩:=h;obtain ⟨a,cap,rfl⟩:=hk.form;exact ⟨hb,a,cap,rfl,hk⟩
def ovE (o:OV):Option Ex:=o.map Prod.fst
structure RdS (f:Fd) (g off:Nat) (cur0:Array Value) (nd:Value) (w:World) (a b c:OV) (W:World):Prop where
 rd:Rd g off cur0 (fdCells f a b c nd) W
 but:But g w W
 ka:OvN w.heap.size W a
 kb:OvN w.heap.size W b
 kc:OvN w.heap.size W c
theorem RdS.lt {f:Fd} {g off:Nat} {cur0:Array Value} {nd:Value} {w:World} {a b c:OV} {W:World} (h:RdS f g off cur0 nd w a b c W):g<W.heap.size:=h.rd.lt
theorem RdS.call {f:Fd} {g off:Nat} {cur0:Array Value} {nd:Value} {w:World} {a b c:OV} {W W':World} (h:RdS f g off cur0 nd w a b c W) (hg:g<w.heap.size) (hb:Below W.heap.size W W'):RdS f g off cur0 nd w a b c W' :=
 ⟨h.rd.keep hb,h.but.call hb,h.ka.but (But.below hb) hg,h.kb.but (But.below hb) hg,h.kc.but (But.below hb) hg⟩
def RdR (ns:List Bs) (ts:List Int) (f:Fd) (g off:Nat) (cur0:Array Value) (nd:Value) (w:World) (gk:Nat) (i:Value) (W:World):Prop :=
 ∃ a b c:OV,RdS f g off cur0 nd w a b c W /\
  ((i = .int .i64 0/\gk=3/\a=none/\b=none/\c=none)\/(i = .int .i64 1/\gk=2/\putM ns ts f.t f.fo = .ok (ovE a)/\b=none/\c=none) \/
   (i = .int .i64 2/\gk=1/\putM ns ts f.t f.fo = .ok (ovE a)/\putM ns ts 2 f.ru = .ok (ovE b)/\c=none) \/
   (i = .int .i64 3/\gk=0/\putM ns ts f.t f.fo = .ok (ovE a)/\putM ns ts 2 f.ru = .ok (ovE b)/\putM ns ts 2 f.sh = .ok (ovE c)))
def readsPost (ns:List Bs) (ts:List Int) (f:Fd) (g off:Nat) (cur0:Array Value) (nd:Value) (w:World) (e:Ending) (W:World):Prop :=
 But g w W/\(match readsM ns ts f with
  | .error k=>e = .returned (.int .i64 k)
  | .ok x=>e = .returned (.int .i64 0)/\∃ a b c:OV,x=(ovE a,ovE b,ovE c)/\RdS f g off cur0 nd w a b c W)
theorem ZhU {ns:List Bs} {ts:List Int} {f:Fd} {k:Int} (h:putM ns ts f.t f.fo = .error k):readsM ns ts f = .error k:=by unfold readsM; rw [h]
theorem ZhV {ns:List Bs} {ts:List Int} {f:Fd} {k:Int} {a:Option Ex} (ha:putM ns ts f.t f.fo = .ok a) (h:putM ns ts 2 f.ru = .error k):readsM ns ts f = .error k:=by unfold readsM; rw [ha]; simp only; rw [h]
theorem ZhW {ns:List Bs} {ts:List Int} {f:Fd} {k:Int} {a b:Option Ex} (ha:putM ns ts f.t f.fo = .ok a) (hb:putM ns ts 2 f.ru = .ok b) (h:putM ns ts 2 f.sh = .error k):readsM ns ts f = .error k:=by unfold readsM; rw [ha]; simp only; rw [hb]; simp only; rw [h]
theorem ZhX {ns:List Bs} {ts:List Int} {f:Fd} {a b c:Option Ex} (ha:putM ns ts f.t f.fo = .ok a) (hb:putM ns ts 2 f.ru = .ok b) (h:putM ns ts 2 f.sh = .ok c):readsM ns ts f = .ok (a,b,c):=by unfold readsM; rw [ha]; simp only; rw [hb]; simp only; rw [h]
theorem ZhY {ns:List Bs} {ts:List Int} {f:Fd} {g off:Nat} {cur0:Array Value} {nd:Value} {w W:World} {k:Int} (hb:But g w W) (h:readsM ns ts f = .error k):readsPost ns ts f g off cur0 nd w (.returned (.int .i64 k)) W:=by unfold readsPost; rw [h]; exact ⟨hb,rfl⟩
theorem Rd.five {g off:Nat} {cur0:Array Value} {cs:List Value} {W:World} (h:Rd g off cur0 cs W) (j m:Nat) (hj:j+3<21) (hm:m<21) (y0 y1 y2 y3 z:Value) :
 Rd g off cur0 (((((cs.set j y0).set (j+1) y1).set (j+2) y2).set (j+3) y3).set m z) (((((W.setCell ⟨g,off+j,none⟩ y0).setCell ⟨g,off+(j+1),none⟩ y1).setCell ⟨g,off+(j+2),none⟩ y2).setCell ⟨g,off+(j+3),none⟩ y3).setCell ⟨g,off+m,none⟩ z) :=
 ((((h.set (by omega) y0).set (by omega) y1).set (by omega) y2).set (by omega) y3).set hm z
theorem But.five {g:Nat} {w W:World} (h:But g w W) (i0 i1 i2 i3 i4:Nat) (y0 y1 y2 y3 z:Value):But g w (((((W.setCell ⟨g,i0,none⟩ y0).setCell ⟨g,i1,none⟩ y1).setCell ⟨g,i2,none⟩ y2).setCell ⟨g,i3,none⟩ y3).setCell ⟨g,i4,none⟩ z) :=
 ((((h.setPb _ _).setPb _ _).setPb _ _).setPb _ _).setPb _ _
theorem Rd.drew {g off:Nat} {cur0:Array Value} {cs:List Value} {W:World} (h:Rd g off cur0 cs W):Rd g off cur0 cs W.drew:=h.keep (Yab _ _).drew
theorem Rd.storeA {f:Fd} {g off:Nat} {cur0:Array Value} {nd:Value} {b c:OV} {W:World} (x:Ex × Value) (h:Rd g off cur0 (fdCells f none b c nd) W) :
 Rd g off cur0 (fdCells f (some x) b c nd) (((((W.setCell ⟨g,off+5,none⟩ (.int .i64 x.1.op)).setCell ⟨g,off+5+1,none⟩ (.int .i64 x.1.n)).setCell ⟨g,off+5+2,none⟩ (.string ⟨x.1.s.toArray⟩)).setCell ⟨g,off+5+3,none⟩ x.2).setCell ⟨g,off+17,none⟩ (.bool true)):=by have h5:=h.five 5 17 (by omega) (by omega) (.int .i64 x.1.op) (.int .i64 x.1.n) (.string ⟨x.1.s.toArray⟩) x.2 (.bool true);rw [(ZhK f b c nd x).1] at h5;simp only [Nat.add_assoc,Nat.reduceAdd] at h5 |-;exact h5
theorem RdS.storeA {f:Fd} {g off:Nat} {cur0:Array Value} {nd:Value} {w:World} {b c:OV} {W:World} {x:Ex × Value} (h:RdS f g off cur0 nd w none b c W) (hg:g<w.heap.size) (hx:OvN w.heap.size W (some x)) :
 RdS f g off cur0 nd w (some x) b c (((((W.setCell ⟨g,off+5,none⟩ (.int .i64 x.1.op)).setCell ⟨g,off+5+1,none⟩ (.int .i64 x.1.n)).setCell ⟨g,off+5+2,none⟩ (.string ⟨x.1.s.toArray⟩)).setCell ⟨g,off+5+3,none⟩ x.2).setCell ⟨g,off+17,none⟩ (.bool true)).drew:=by have h5:=h.rd.storeA x;have hb:=(But.refl g W).five (off+5) (off+5+1) (off+5+2) (off+5+3) (off+17) (.int .i64 x.1.op) (.int .i64 x.1.n) (.string ⟨x.1.s.toArray⟩) x.2 (.bool true);generalize (((((W.setCell ⟨g,off+5,none⟩ (.int .i64 x.1.op)).setCell ⟨g,off+5+1,none⟩ (.int .i64 x.1.n)).setCell ⟨g,off+5+2,none⟩ (.string ⟨x.1.s.toArray⟩)).setCell ⟨g,off+5+3,none⟩ x.2).setCell ⟨g,off+17,none⟩ (.bool true))=V at *;have hb:=hb.drew;exact ⟨h5.drew,h.but.trans hb,hx.but hb hg,h.kb.but hb hg,h.kc.but hb hg⟩
theorem Rd.storeB {f:Fd} {g off:Nat} {cur0:Array Value} {nd:Value} {a c:OV} {W:World} (x:Ex × Value) (h:Rd g off cur0 (fdCells f a none c nd) W) :
 Rd g off cur0 (fdCells f a (some x) c nd) (((((W.setCell ⟨g,off+5+4,none⟩ (.int .i64 x.1.op)).setCell ⟨g,off+5+4+1,none⟩ (.int .i64 x.1.n)).setCell ⟨g,off+5+4+2,none⟩ (.string ⟨x.1.s.toArray⟩)).setCell ⟨g,off+5+4+3,none⟩ x.2).setCell ⟨g,off+17+1,none⟩ (.bool true)):=by have h5:=h.five 9 18 (by omega) (by omega) (.int .i64 x.1.op) (.int .i64 x.1.n) (.string ⟨x.1.s.toArray⟩) x.2 (.bool true);rw [(ZhL f a c nd x).1] at h5;simp only [Nat.add_assoc,Nat.reduceAdd] at h5 |-;exact h5
theorem RdS.storeB {f:Fd} {g off:Nat} {cur0:Array Value} {nd:Value} {w:World} {a c:OV} {W:World} {x:Ex × Value} (h:RdS f g off cur0 nd w a none c W) (hg:g<w.heap.size) (hx:OvN w.heap.size W (some x)) :
 RdS f g off cur0 nd w a (some x) c (((((W.setCell ⟨g,off+5+4,none⟩ (.int .i64 x.1.op)).setCell ⟨g,off+5+4+1,none⟩ (.int .i64 x.1.n)).setCell ⟨g,off+5+4+2,none⟩ (.string ⟨x.1.s.toArray⟩)).setCell ⟨g,off+5+4+3,none⟩ x.2).setCell ⟨g,off+17+1,none⟩ (.bool true)).drew:=by have h5:=h.rd.storeB x;have hb:=(But.refl g W).five (off+5+4) (off+5+4+1) (off+5+4+2) (off+5+4+3) (off+17+1) (.int .i64 x.1.op) (.int .i64 x.1.n) (.string ⟨x.1.s.toArray⟩) x.2 (.bool true);generalize (((((W.setCell ⟨g,off+5+4,none⟩ (.int .i64 x.1.op)).setCell ⟨g,off+5+4+1,none⟩ (.int .i64 x.1.n)).setCell ⟨g,off+5+4+2,none⟩ (.string ⟨x.1.s.toArray⟩)).setCell ⟨g,off+5+4+3,none⟩ x.2).setCell ⟨g,off+17+1,none⟩ (.bool true))=V at *;have hb:=hb.drew;exact ⟨h5.drew,h.but.trans hb,h.ka.but hb hg,hx.but hb hg,h.kc.but hb hg⟩
theorem Rd.storeC {f:Fd} {g off:Nat} {cur0:Array Value} {nd:Value} {a b:OV} {W:World} (x:Ex × Value) (h:Rd g off cur0 (fdCells f a b none nd) W) :
 Rd g off cur0 (fdCells f a b (some x) nd) (((((W.setCell ⟨g,off+5+8,none⟩ (.int .i64 x.1.op)).setCell ⟨g,off+5+8+1,none⟩ (.int .i64 x.1.n)).setCell ⟨g,off+5+8+2,none⟩ (.string ⟨x.1.s.toArray⟩)).setCell ⟨g,off+5+8+3,none⟩ x.2).setCell ⟨g,off+17+2,none⟩ (.bool true)):=by have h5:=h.five 13 19 (by omega) (by omega) (.int .i64 x.1.op) (.int .i64 x.1.n) (.string ⟨x.1.s.toArray⟩) x.2 (.bool true);rw [(ZhM f a b nd x).1] at h5;simp only [Nat.add_assoc,Nat.reduceAdd] at h5 |-;exact h5
theorem RdS.storeC {f:Fd} {g off:Nat} {cur0:Array Value} {nd:Value} {w:World} {a b:OV} {W:World} {x:Ex × Value} (h:RdS f g off cur0 nd w a b none W) (hg:g<w.heap.size) (hx:OvN w.heap.size W (some x)) :
 RdS f g off cur0 nd w a b (some x) (((((W.setCell ⟨g,off+5+8,none⟩ (.int .i64 x.1.op)).setCell ⟨g,off+5+8+1,none⟩ (.int .i64 x.1.n)).setCell ⟨g,off+5+8+2,none⟩ (.string ⟨x.1.s.toArray⟩)).setCell ⟨g,off+5+8+3,none⟩ x.2).setCell ⟨g,off+17+2,none⟩ (.bool true)).drew:=by have h5:=h.rd.storeC x;have hb:=(But.refl g W).five (off+5+8) (off+5+8+1) (off+5+8+2) (off+5+8+3) (off+17+2) (.int .i64 x.1.op) (.int .i64 x.1.n) (.string ⟨x.1.s.toArray⟩) x.2 (.bool true);generalize (((((W.setCell ⟨g,off+5+8,none⟩ (.int .i64 x.1.op)).setCell ⟨g,off+5+8+1,none⟩ (.int .i64 x.1.n)).setCell ⟨g,off+5+8+2,none⟩ (.string ⟨x.1.s.toArray⟩)).setCell ⟨g,off+5+8+3,none⟩ x.2).setCell ⟨g,off+17+2,none⟩ (.bool true))=V at *;have hb:=hb.drew;exact ⟨h5.drew,h.but.trans hb,h.ka.but hb hg,h.kb.but hb hg,hx.but hb hg⟩
theorem ZhZ (f:Fd) (g off:Nat) (cur0:Array Value) (nd nv tv:Value) (ns:List Bs) (ts:List Int) (w:World)
 (hs1:f.fo.length<=1000000) (hs2:f.ru.length<=1000000) (hs3:f.sh.length<=1000000) (hL:Lay (gb g w)) (hN:StrsV (gb g w) nv ns) (hT:IntsV (gb g w) tv ts) (hR:Rd g off cur0 (fdCells f none none none nd) w) :
 Calls Tryz.prog 49 #[.pointer (some ⟨g,off,none⟩),nv,tv] w (readsPost ns ts f g off cur0 nd w):=by
 obtain ⟨fn,ft,fo,ru,sh⟩:=f;simp only at hs1 hs2 hs3;have hg:=hR.lt;have HS0:Hid (RdS ⟨fn,ft,fo,ru,sh⟩ g off cur0 nd w none none none w):=Zq ⟨hR,But.refl _ _,OvN.none _ _,OvN.none _ _,OvN.none _ _⟩;have HL:=Zq hL;have HN:=Zq hN;have HT:=Zq hT;have c2:=(hR.cell (j:=2) rfl).1;have c3:=(hR.cell (j:=3) rfl).1;have c4:=(hR.cell (j:=4) rfl).1;obtain ⟨na,nc,rfl⟩:=hN.form;obtain ⟨ta,tc,rfl,-⟩:=Zd0 hT;have hix0:=fun W=>ZhS ⟨fo.toArray⟩ ⟨ru.toArray⟩ ⟨sh.toArray⟩ 0 (by omega) W;have hix1:=fun W=>ZhS ⟨fo.toArray⟩ ⟨ru.toArray⟩ ⟨sh.toArray⟩ 1 (by omega) W;have hix2:=fun W=>ZhS ⟨fo.toArray⟩ ⟨ru.toArray⟩ ⟨sh.toArray⟩ 2 (by omega) W;simp at hix0 hix1 hix2;clear hL hN hT hR;go_in;go_wp2_with fail;go_quiet (fail);clear c2 c3 c4;go_wp2_with fail;go_loopg [29] 3 (fun gk i wr=>RdR ns ts ⟨fn,ft,fo,ru,sh⟩ g off cur0 nd w gk i wr);case atStart=>exact ⟨none,none,none,HS0.out.call hg (Ybb (Yab _ _) _),.inl ⟨rfl,rfl,rfl,rfl,rfl⟩⟩
 case round =>
  obtain ⟨a,b,c,hs,hk⟩:=hrel;have HS:=Zq hs;have hgw:=hs.lt;clear hs;rcases hk with ⟨rfl,rfl,rfl,rfl,rfl⟩|⟨rfl,rfl,ha,rfl,rfl⟩|⟨rfl,rfl,ha,hb,rfl⟩|⟨rfl,rfl,ha,hb,hc⟩
  . -- the formula
    by_cases hx:fo=[]
    . subst hx
      go_wp2_with fail
      go_roundg 2
      case rel=>exact ⟨none,none,none,HS.out,.inr (.inl ⟨rfl,rfl,ZhN _ _ _,rfl,rfl⟩)⟩
      case measure=>omega
    . have HX:=Zq hx
      have q0:List.isEmpty fo=false:=ZcZ hx
      have q1:¬ (fo=[]):=hx
      have hsz:(⟨fo.toArray⟩:ByteArray).size<=9223372036854775807:=by show fo.toArray.size<=_; simp; omega
      have hLw:=(HL.out.mono HS.out.but.gb).mono (Zdu g wr)
      cases hp:parseM fo with
      | error z =>
       obtain ⟨p,k⟩:=z
       have hk0:(k != 0)=true:=by have:=ZhJ hp; simp; omega
       have HM:=Zq (ZhO (ns:=ns) (ts:=ts) (t:=ft) hx hp)
       have HP:=Zq (ZhH ⟨fo.toArray⟩ p k wr hsz (by simpa using hp) hLw)
       clear hx hsz hLw hp
       go_wp2_with fail
       refine HP.out.mono ?_
       rintro r W1 ⟨hb1,rfl⟩
       have HS1:=Zq (HS.out.call hg hb1)
       clear hb1
       go_wp2_with fail
       try rw [Yae]
       go_ret
       exact ZhY (HS1.out.but.alloc _) (ZhU (HM.out))
      | ok X =>
       have HFI:=Zq (ZhE hp)
       have HP:=Zq (ZhT ⟨fo.toArray⟩ X wr hsz (by simpa using hp) hLw)
       obtain ⟨t,u,htu⟩:∃ t u,typeOf X ns ts=(t,u):=⟨_,_,rfl⟩
       have HOF:Hid (∀ v W,But g w W->EV (gh W) v X->Calls Tryz.prog 68 #[v,.slice na ns.length nc,.slice ta ts.length tc] W (fun r W'=>r = .returned (.tuple #[.int .i64 t,.int .i64 u])/\Below W.heap.size W W')):=Zq (fun v W hb hE=>by
        have h:=ZhD X v (.slice na ns.length nc) (.slice ta ts.length tc) ns ts W HFI.out ((HL.out.mono hb.gb).mono (Zdu g W)) hE ((HN.out.mono hb.gb).mono (Zdu g W)) ((HT.out.mono hb.gb).mono (Zdu g W))
        rw [htu] at h
        exact h)
       have HPM:=Zq hp
       have HTU:=Zq htu
       clear hx hsz hLw hp htu
       go_wp2_with fail
       refine HP.out.mono ?_
       rintro r W1 ⟨hb1,xa,xc,rfl,hk1⟩
       have HS1:=Zq (HS.out.call hg hb1)
       have HSZ:=Zq HS.out.but.size
       have hox:OvN w.heap.size W1 (some (X,.slice xa X.ks.length xc)):=fun x hx=>by
        cases hx
        exact ⟨hk1.mono (ZdJ fun b hb _=>⟨Nat.le_trans HSZ.out hb,rfl⟩),HFI.out⟩
       have HOX1:=Zq (hox.but (But.below ((Yab W1.heap.size W1).alloc Zs (cEx X.op X.n X.s (.slice xa X.ks.length xc)))) hg)
       have HK2:=Zq (((hk1.mono (ZdK _ _))).keep ((Yab W1.heap.size W1).alloc Zs (cEx X.op X.n X.s (.slice xa X.ks.length xc))))
       have HS2:=Zq (HS1.out.call hg ((Yab W1.heap.size W1).alloc Zs (cEx X.op X.n X.s (.slice xa X.ks.length xc))))
       have HBX:=Zq (Yac W1 (cEx X.op X.n X.s (.slice xa X.ks.length xc)))
       have hbg:g<W1.heap.size:=HS1.out.lt
       have hgb:g≠W1.heap.size:=by omega
       clear hb1 hk1 HP hox hbg HS1
       go_upto_region 8 with fail
       generalize W1.alloc (cEx X.op X.n X.s (.slice xa X.ks.length xc))=W2 at *
       generalize W1.heap.size=bx at *
       obtain ⟨⟨g0,g1,g2,g3⟩,-⟩:=ZdP HBX.out
       go_wp2_with fail
       refine (HOF.out _ _ HS2.out.but ⟨_,rfl,HK2.out⟩).mono ?_
       rintro r W3 ⟨rfl,hb3⟩
       have HS3:=Zq (HS2.out.call hg hb3)
       have HOX3:=Zq (HOX1.out.but (But.below hb3) hg)
       have HBX3:Hid (W3.heap[bx]?=_):=Zq ((hb3.block _ (Yaa.1 HBX.out).1).trans HBX.out)
       clear g0 g1 g2 g3 hb3 HOF HS2 HOX1 HBX HK2
       by_cases hu:u=0
       . subst hu
         have ct:=(HS3.out.rd.cell (j:=1) rfl).1
         by_cases ht:t=ft
         . have qt:(t != ft)=false:=by rw [ht]; simp
           have HPG:=Zq (ZhR (want:=ft) HX.out HPM.out (ht▸HTU.out))
           clear ht
           obtain ⟨⟨g0,g1,g2,g3⟩,-⟩:=ZdP HBX3.out
           go_upto_region 13 with fail
           clear ct
           obtain ⟨s0,z0⟩:=HS3.out.rd.cell (fdA _ _ _ _).1
           obtain ⟨s1,z1⟩:=HS3.out.rd.cell (fdA _ _ _ _).2.1
           obtain ⟨s2,z2⟩:=HS3.out.rd.cell (fdA _ _ _ _).2.2.1
           obtain ⟨s3,z3⟩:=HS3.out.rd.cell (fdA _ _ _ _).2.2.2.1
           obtain ⟨s4,z4⟩:=HS3.out.rd.cell (fdA _ _ _ _).2.2.2.2
           go_region_held3 (fun w'=>w'.cell? ⟨bx,0,none⟩=some (.int .i64 X.op)/\w'.cell? ⟨bx,1,none⟩=some (.int .i64 X.n)/\w'.cell? ⟨bx,2,none⟩=some (.string ⟨X.s.toArray⟩)/\w'.cell? ⟨bx,3,none⟩=some (.slice xa X.ks.length xc)) (go_keep) (fail)
           all_goals
            go_wp2_with fail
            go_roundg 2
            case rel =>
             exact ⟨some (X,.slice xa X.ks.length xc),none,none,HS3.out.storeA (x:=(X,.slice xa X.ks.length xc)) hg HOX3.out,.inr (.inl ⟨rfl,rfl,HPG.out,rfl,rfl⟩)⟩
            case measure=>omega
         . have qt:(t != ft)=true:=by simpa using ht
           have HPB:=Zq (ZhQ (want:=ft) HX.out HPM.out HTU.out ht)
           clear ht
           go_wp2_with fail
           try rw [Yae]
           go_ret
           exact ZhY HS3.out.but (ZhU (HPB.out))
       . have qu:(u != 0)=true:=by simpa using hu
         have HPB:=Zq (ZhP (want:=ft) HX.out HPM.out HTU.out hu)
         clear hu
         go_wp2_with fail
         try rw [Yae]
         go_ret
         exact ZhY HS3.out.but (ZhU (HPB.out))
  . -- the rule
    have HA:=Zq ha; clear ha
    by_cases hx:ru=[]
    . subst hx
      go_wp2_with fail
      go_roundg 1
      case rel=>exact ⟨a,none,none,HS.out,.inr (.inr (.inl ⟨rfl,rfl,HA.out,ZhN _ _ _,rfl⟩))⟩
      case measure=>omega
    . have HX:=Zq hx
      have q0:List.isEmpty ru=false:=ZcZ hx
      have q1:¬ (ru=[]):=hx
      have hsz:(⟨ru.toArray⟩:ByteArray).size<=9223372036854775807:=by show ru.toArray.size<=_; simp; omega
      have hLw:=(HL.out.mono HS.out.but.gb).mono (Zdu g wr)
      cases hp:parseM ru with
      | error z =>
       obtain ⟨p,k⟩:=z
       have hk0:(k != 0)=true:=by have:=ZhJ hp; simp; omega
       have HM:=Zq (ZhO (ns:=ns) (ts:=ts) (t:=2) hx hp)
       have HP:=Zq (ZhH ⟨ru.toArray⟩ p k wr hsz (by simpa using hp) hLw)
       clear hx hsz hLw hp
       go_wp2_with fail
       refine HP.out.mono ?_
       rintro r W1 ⟨hb1,rfl⟩
       have HS1:=Zq (HS.out.call hg hb1)
       clear hb1
       go_wp2_with fail
       try rw [Yae]
       go_ret
       exact ZhY (HS1.out.but.alloc _) (ZhV HA.out (HM.out))
      | ok X =>
       have HFI:=Zq (ZhE hp)
       have HP:=Zq (ZhT ⟨ru.toArray⟩ X wr hsz (by simpa using hp) hLw)
       obtain ⟨t,u,htu⟩:∃ t u,typeOf X ns ts=(t,u):=⟨_,_,rfl⟩
       have HOF:Hid (∀ v W,But g w W->EV (gh W) v X->Calls Tryz.prog 68 #[v,.slice na ns.length nc,.slice ta ts.length tc] W (fun r W'=>r = .returned (.tuple #[.int .i64 t,.int .i64 u])/\Below W.heap.size W W')):=Zq (fun v W hb hE=>by
        have h:=ZhD X v (.slice na ns.length nc) (.slice ta ts.length tc) ns ts W HFI.out ((HL.out.mono hb.gb).mono (Zdu g W)) hE ((HN.out.mono hb.gb).mono (Zdu g W)) ((HT.out.mono hb.gb).mono (Zdu g W))
        rw [htu] at h
        exact h)
       have HPM:=Zq hp
       have HTU:=Zq htu
       clear hx hsz hLw hp htu
       go_wp2_with fail
       refine HP.out.mono ?_
       rintro r W1 ⟨hb1,xa,xc,rfl,hk1⟩
       have HS1:=Zq (HS.out.call hg hb1)
       have HSZ:=Zq HS.out.but.size
       have hox:OvN w.heap.size W1 (some (X,.slice xa X.ks.length xc)):=fun x hx=>by
        cases hx
        exact ⟨hk1.mono (ZdJ fun b hb _=>⟨Nat.le_trans HSZ.out hb,rfl⟩),HFI.out⟩
       have HOX1:=Zq (hox.but (But.below ((Yab W1.heap.size W1).alloc Zs (cEx X.op X.n X.s (.slice xa X.ks.length xc)))) hg)
       have HK2:=Zq (((hk1.mono (ZdK _ _))).keep ((Yab W1.heap.size W1).alloc Zs (cEx X.op X.n X.s (.slice xa X.ks.length xc))))
       have HS2:=Zq (HS1.out.call hg ((Yab W1.heap.size W1).alloc Zs (cEx X.op X.n X.s (.slice xa X.ks.length xc))))
       have HBX:=Zq (Yac W1 (cEx X.op X.n X.s (.slice xa X.ks.length xc)))
       have hbg:g<W1.heap.size:=HS1.out.lt
       have hgb:g≠W1.heap.size:=by omega
       clear hb1 hk1 HP hox hbg HS1
       go_upto_region 8 with fail
       generalize W1.alloc (cEx X.op X.n X.s (.slice xa X.ks.length xc))=W2 at *
       generalize W1.heap.size=bx at *
       obtain ⟨⟨g0,g1,g2,g3⟩,-⟩:=ZdP HBX.out
       go_wp2_with fail
       refine (HOF.out _ _ HS2.out.but ⟨_,rfl,HK2.out⟩).mono ?_
       rintro r W3 ⟨rfl,hb3⟩
       have HS3:=Zq (HS2.out.call hg hb3)
       have HOX3:=Zq (HOX1.out.but (But.below hb3) hg)
       have HBX3:Hid (W3.heap[bx]?=_):=Zq ((hb3.block _ (Yaa.1 HBX.out).1).trans HBX.out)
       clear g0 g1 g2 g3 hb3 HOF HS2 HOX1 HBX HK2
       by_cases hu:u=0
       . subst hu
         have ct:=(HS3.out.rd.cell (j:=1) rfl).1
         by_cases ht:t=2
         . have qt:(t != 2)=false:=by rw [ht]; simp
           have HPG:=Zq (ZhR (want:=2) HX.out HPM.out (ht▸HTU.out))
           clear ht
           obtain ⟨⟨g0,g1,g2,g3⟩,-⟩:=ZdP HBX3.out
           go_upto_region 13 with fail
           clear ct
           obtain ⟨s0,z0⟩:=HS3.out.rd.cell (fdB _ _ _ _).1
           obtain ⟨s1,z1⟩:=HS3.out.rd.cell (fdB _ _ _ _).2.1
           obtain ⟨s2,z2⟩:=HS3.out.rd.cell (fdB _ _ _ _).2.2.1
           obtain ⟨s3,z3⟩:=HS3.out.rd.cell (fdB _ _ _ _).2.2.2.1
           obtain ⟨s4,z4⟩:=HS3.out.rd.cell (fdB _ _ _ _).2.2.2.2
           go_region_held3 (fun w'=>w'.cell? ⟨bx,0,none⟩=some (.int .i64 X.op)/\w'.cell? ⟨bx,1,none⟩=some (.int .i64 X.n)/\w'.cell? ⟨bx,2,none⟩=some (.string ⟨X.s.toArray⟩)/\w'.cell? ⟨bx,3,none⟩=some (.slice xa X.ks.length xc)) (go_keep) (fail)
           all_goals
            go_wp2_with fail
            go_roundg 1
            case rel =>
             exact ⟨a,some (X,.slice xa X.ks.length xc),none,HS3.out.storeB (x:=(X,.slice xa X.ks.length xc)) hg HOX3.out,.inr (.inr (.inl ⟨rfl,rfl,HA.out,HPG.out,rfl⟩))⟩
            case measure=>omega
         . have qt:(t != 2)=true:=by simpa using ht
           have HPB:=Zq (ZhQ (want:=2) HX.out HPM.out HTU.out ht)
           clear ht
           go_wp2_with fail
           try rw [Yae]
           go_ret
           exact ZhY HS3.out.but (ZhV HA.out (HPB.out))
       . have qu:(u != 0)=true:=by simpa using hu
         have HPB:=Zq (ZhP (want:=2) HX.out HPM.out HTU.out hu)
         clear hu
         go_wp2_with fail
         try rw [Yae]
         go_ret
         exact ZhY HS3.out.but (ZhV HA.out (HPB.out))
  . -- the show
    have HA:=Zq ha; clear ha
    have HB:=Zq hb; clear hb
    by_cases hx:sh=[]
    . subst hx
      go_wp2_with fail
      go_roundg 0
      case rel=>exact ⟨a,b,none,HS.out,.inr (.inr (.inr ⟨rfl,rfl,HA.out,HB.out,ZhN _ _ _⟩))⟩
      case measure=>omega
    . have HX:=Zq hx
      have q0:List.isEmpty sh=false:=ZcZ hx
      have q1:¬ (sh=[]):=hx
      have hsz:(⟨sh.toArray⟩:ByteArray).size<=9223372036854775807:=by show sh.toArray.size<=_; simp; omega
      have hLw:=(HL.out.mono HS.out.but.gb).mono (Zdu g wr)
      cases hp:parseM sh with
      | error z =>
       obtain ⟨p,k⟩:=z
       have hk0:(k != 0)=true:=by have:=ZhJ hp; simp; omega
       have HM:=Zq (ZhO (ns:=ns) (ts:=ts) (t:=2) hx hp)
       have HP:=Zq (ZhH ⟨sh.toArray⟩ p k wr hsz (by simpa using hp) hLw)
       clear hx hsz hLw hp
       go_wp2_with fail
       refine HP.out.mono ?_
       rintro r W1 ⟨hb1,rfl⟩
       have HS1:=Zq (HS.out.call hg hb1)
       clear hb1
       go_wp2_with fail
       try rw [Yae]
       go_ret
       exact ZhY (HS1.out.but.alloc _) (ZhW HA.out HB.out (HM.out))
      | ok X =>
       have HFI:=Zq (ZhE hp)
       have HP:=Zq (ZhT ⟨sh.toArray⟩ X wr hsz (by simpa using hp) hLw)
       obtain ⟨t,u,htu⟩:∃ t u,typeOf X ns ts=(t,u):=⟨_,_,rfl⟩
       have HOF:Hid (∀ v W,But g w W->EV (gh W) v X->Calls Tryz.prog 68 #[v,.slice na ns.length nc,.slice ta ts.length tc] W (fun r W'=>r = .returned (.tuple #[.int .i64 t,.int .i64 u])/\Below W.heap.size W W')):=Zq (fun v W hb hE=>by
        have h:=ZhD X v (.slice na ns.length nc) (.slice ta ts.length tc) ns ts W HFI.out ((HL.out.mono hb.gb).mono (Zdu g W)) hE ((HN.out.mono hb.gb).mono (Zdu g W)) ((HT.out.mono hb.gb).mono (Zdu g W))
        rw [htu] at h
        exact h)
       have HPM:=Zq hp
       have HTU:=Zq htu
       clear hx hsz hLw hp htu
       go_wp2_with fail
       refine HP.out.mono ?_
       rintro r W1 ⟨hb1,xa,xc,rfl,hk1⟩
       have HS1:=Zq (HS.out.call hg hb1)
       have HSZ:=Zq HS.out.but.size
       have hox:OvN w.heap.size W1 (some (X,.slice xa X.ks.length xc)):=fun x hx=>by
        cases hx
        exact ⟨hk1.mono (ZdJ fun b hb _=>⟨Nat.le_trans HSZ.out hb,rfl⟩),HFI.out⟩
       have HOX1:=Zq (hox.but (But.below ((Yab W1.heap.size W1).alloc Zs (cEx X.op X.n X.s (.slice xa X.ks.length xc)))) hg)
       have HK2:=Zq (((hk1.mono (ZdK _ _))).keep ((Yab W1.heap.size W1).alloc Zs (cEx X.op X.n X.s (.slice xa X.ks.length xc))))
       have HS2:=Zq (HS1.out.call hg ((Yab W1.heap.size W1).alloc Zs (cEx X.op X.n X.s (.slice xa X.ks.length xc))))
       have HBX:=Zq (Yac W1 (cEx X.op X.n X.s (.slice xa X.ks.length xc)))
       have hbg:g<W1.heap.size:=HS1.out.lt
       have hgb:g≠W1.heap.size:=by omega
       clear hb1 hk1 HP hox hbg HS1
       go_upto_region 8 with fail
       generalize W1.alloc (cEx X.op X.n X.s (.slice xa X.ks.length xc))=W2 at *
       generalize W1.heap.size=bx at *
       obtain ⟨⟨g0,g1,g2,g3⟩,-⟩:=ZdP HBX.out
       go_wp2_with fail
       refine (HOF.out _ _ HS2.out.but ⟨_,rfl,HK2.out⟩).mono ?_
       rintro r W3 ⟨rfl,hb3⟩
       have HS3:=Zq (HS2.out.call hg hb3)
       have HOX3:=Zq (HOX1.out.but (But.below hb3) hg)
       have HBX3:Hid (W3.heap[bx]?=_):=Zq ((hb3.block _ (Yaa.1 HBX.out).1).trans HBX.out)
       clear g0 g1 g2 g3 hb3 HOF HS2 HOX1 HBX HK2
       by_cases hu:u=0
       . subst hu
         have ct:=(HS3.out.rd.cell (j:=1) rfl).1
         by_cases ht:t=2
         . have qt:(t != 2)=false:=by rw [ht]; simp
           have HPG:=Zq (ZhR (want:=2) HX.out HPM.out (ht▸HTU.out))
           clear ht
           obtain ⟨⟨g0,g1,g2,g3⟩,-⟩:=ZdP HBX3.out
           go_upto_region 13 with fail
           clear ct
           obtain ⟨s0,z0⟩:=HS3.out.rd.cell (fdC _ _ _ _).1
           obtain ⟨s1,z1⟩:=HS3.out.rd.cell (fdC _ _ _ _).2.1
           obtain ⟨s2,z2⟩:=HS3.out.rd.cell (fdC _ _ _ _).2.2.1
           obtain ⟨s3,z3⟩:=HS3.out.rd.cell (fdC _ _ _ _).2.2.2.1
           obtain ⟨s4,z4⟩:=HS3.out.rd.cell (fdC _ _ _ _).2.2.2.2
           go_region_held3 (fun w'=>w'.cell? ⟨bx,0,none⟩=some (.int .i64 X.op)/\w'.cell? ⟨bx,1,none⟩=some (.int .i64 X.n)/\w'.cell? ⟨bx,2,none⟩=some (.string ⟨X.s.toArray⟩)/\w'.cell? ⟨bx,3,none⟩=some (.slice xa X.ks.length xc)) (go_keep) (fail)
           all_goals
            go_wp2_with fail
            go_roundg 0
            case rel =>
             exact ⟨a,b,some (X,.slice xa X.ks.length xc),HS3.out.storeC (x:=(X,.slice xa X.ks.length xc)) hg HOX3.out,.inr (.inr (.inr ⟨rfl,rfl,HA.out,HB.out,HPG.out⟩))⟩
            case measure=>omega
         . have qt:(t != 2)=true:=by simpa using ht
           have HPB:=Zq (ZhQ (want:=2) HX.out HPM.out HTU.out ht)
           clear ht
           go_wp2_with fail
           try rw [Yae]
           go_ret
           exact ZhY HS3.out.but (ZhW HA.out HB.out (HPB.out))
       . have qu:(u != 0)=true:=by simpa using hu
         have HPB:=Zq (ZhP (want:=2) HX.out HPM.out HTU.out hu)
         clear hu
         go_wp2_with fail
         try rw [Yae]
         go_ret
         exact ZhY HS3.out.but (ZhW HA.out HB.out (HPB.out))
  . -- behind the last
    have HA:=Zq ha; clear ha
    have HB:=Zq hb; clear hb
    have HC:=Zq hc; clear hc
    go_wp2_with fail
    go_ret
    unfold readsPost
    rw [ZhX HA.out HB.out HC.out]
    exact ⟨HS.out.but,rfl,a,b,c,rfl,HS.out⟩
end Go.Proofs.YtikannmgllejfaaGreatDoor
