/- The document's form as it is made: its blocks, its rows. -/
import Derived.Test.YtikannmgllejfaaGreatDoorKSF
import Derived.Test.YtikannmgllejfaaGreatDoorKSK
set_option linter.all false
namespace Go.Proofs.YtikannmgllejfaaGreatDoor
open Go.RowKit Pal
def namedV:Option (Nat × Int)->Value
 | none => .tuple #[.int .i64 0,.int .i64 0]
 | some x => .tuple #[.int .i64 x.1,.int .i64 x.2]
def textK (f:Fd) (k:Nat):Bs:=if k=0 then f.fo else if k=1 then f.ru else f.sh
def wantK (f:Fd) (k:Nat):Int:=if k=0 then f.t else 2
def updV {α:Type} (f:Nat->α) (k:Nat) (v:α):Nat->α:=fun j=>if j=k then v else f j
theorem Zj7 {α:Type} (f:Nat->α) (k:Nat) (v:α):updV f k v k=v:=by simp [updV]
theorem Zj8 {α:Type} {f:Nat->α} {k j:Nat} {v:α} (h:j≠k):updV f k v j=f j:=by simp [updV,h]
def boolC (b:Bool):List Value:=[.bool b]
theorem Zj9 (b:Bool):(boolC b).length=1:=rfl
structure DF (w:World) (l:List Fd) (b:Nat) (t:Tag) (lv:Value) (ev hv:Nat->Value) (el:Nat->List OV) (hl:Nat->List Bool) (W:World):Prop where
 box:W.heap[b]?=some (.cells #[lv,ev 0,ev 1,ev 2,hv 0,hv 1,hv 2,.slice none 0 0,.slice none 0 0] 41 (0,0))
 bt:t b=1
 fds:Row t 2 W 53 5 lv l.length (l.flatMap inCells)
 exs:∀ k,k<3->Row t (10+k) W 83 4 (ev k) (el k).length ((el k).flatMap exOf)
 has:∀ k,k<3->Row t (20+k) W 4 1 (hv k) (hl k).length ((hl k).flatMap boolC)
 ok:∀ k,k<3->∀ o∈el k,∀ x,o=some x->KV (hz t W) x.2 x.1.ks/\Fine x.1
 ev:Evo T0 w t W (·≠0)
section
variable {w : World} {l : List Fd} {b : Nat} {t t' : Tag} {lv : Value} {ev hv : Nat -> Value} {el : Nat -> List OV} {hl : Nat -> List Bool} {W W' : World}
theorem DF.lt (h:DF w l b t lv ev hv el hl W):b<W.heap.size:=(Yaa.1 h.box).1
theorem DF.keep9 (h:DF w l b t lv ev hv el hl W) (e:Evo t W t' W' (·=99)):DF w l b t' lv ev hv el hl W':=by
 have hlt:=h.lt;exact ⟨(e.block _ hlt (by rw [h.bt]; decide)).trans h.box,(e.tag _ hlt).trans h.bt,h.fds.keep e (by decide),fun k hk=>(h.exs k hk).keep e (by omega),fun k hk=>(h.has k hk).keep e (by omega),
  fun k hk o ho x hx=>⟨(h.ok k hk o ho x hx).1.mono (e.hz (by decide)),(h.ok k hk o ho x hx).2⟩,h.ev.trans (e.mono fun _ h=>by rw [h]; decide)⟩
theorem DF.keep (h:DF w l b t lv ev hv el hl W) (e:Evo t W t' W' (fun _=>False)):DF w l b t' lv ev hv el hl W':=h.keep9 (e.mono fun _ h=>h.elim)
theorem DF.call (h:DF w l b t lv ev hv el hl W) (hb:Below W.heap.size W W'):DF w l b (t.ext W.heap.size 0) lv ev hv el hl W':=h.keep (Evo.below hb (Tag.ext_lt _ _ _))
theorem DF.new (h:DF w l b t lv ev hv el hl W) (o:Obj):DF w l b (t.set W.heap.size 0) lv ev hv el hl (W.alloc o):=h.keep ((Ybg _ _ _).alloc 0 o)
theorem DF.below (h:DF w l b t lv ev hv el hl W):Below w.heap.size w W:=h.ev.toBelow (by simp)
theorem DF.fdsV (h:DF w l b t lv ev hv el hl W):FdsV (gh W) lv l:=SlV.ofRow inCells l noFd (by decide) Zj5 h.fds
theorem Zka {B i:Nat} {x:Array Value} {y:Value} {T:TypeId} (h:W.heap[B]?=some (.cells x T (0,0))):(W.setCell ⟨B,i,none⟩ y).heap[B]?=some (.cells (x.setIfInBounds i y) T (0,0)):=by simp [World.setCell,Yap,h]
theorem DF.app1 (h:DF w l b t lv ev hv el hl W) {k:Nat} (hk:k<3) {v':Value} {o:OV} (hr:Row t' (10+k) W' 83 4 v' (el k++[o]).length ((el k++[o]).flatMap exOf)) (e:Evo t W t' W' (·=10+k))
 (ho:∀ x,o=some x->KV (hz t W) x.2 x.1.ks/\Fine x.1):DF w l b t' lv (updV ev k v') hv (updV el k (el k++[o])) hl (W'.setCell ⟨b,1+k,none⟩ v'):=by
 have hlt:=h.lt;have hb:=(e.block _ hlt (by rw [h.bt]; omega)).trans h.box;have ht:t' b=1:=(e.tag _ hlt).trans h.bt;have e2:Evo t' W' t' (W'.setCell ⟨b,1+k,none⟩ v') (·=1):=(Ybg _ _ _).setCell _ _ ht;have hzz:(hz t W).le (hz t' (W'.setCell ⟨b,1+k,none⟩ v')):=(e.hz (by omega)).trans (e2.hz (by omega));refine ⟨?_,ht,(h.fds.keep e (by omega)).keep e2 (by omega),fun j hj=>?_,fun j hj=>((h.has j hj).keep e (by omega)).keep e2 (by omega),fun j hj x hx y hy=>?_,(h.ev.trans (e.mono fun _ h=>by omega)).trans (e2.mono fun _ h=>by rw [h]; decide)⟩
 . rw [Zka hb];rcases (by omega:k=0\/k=1\/k=2) with rfl|rfl|rfl<;>simp [updV]
 . by_cases hjk:j=k
   . subst hjk;rw [Zj7,Zj7]; exact hr.keep e2 (by omega)
   . rw [Zj8 hjk,Zj8 hjk];exact ((h.exs j hj).keep e (by omega)).keep e2 (by omega)
 . by_cases hjk:j=k
   . subst hjk;rw [Zj7] at hx;rcases List.mem_append.1 hx with hx|hx
     . exact ⟨(h.ok j hj x hx y hy).1.mono hzz,(h.ok j hj x hx y hy).2⟩
     . obtain rfl:=List.mem_singleton.1 hx;exact ⟨(ho y hy).1.mono hzz,(ho y hy).2⟩
   . rw [Zj8 hjk] at hx;exact ⟨(h.ok j hj x hx y hy).1.mono hzz,(h.ok j hj x hx y hy).2⟩
theorem DF.app2 (h:DF w l b t lv ev hv el hl W) {k:Nat} (hk:k<3) {v':Value} {o:Bool} (hr:Row t' (20+k) W' 4 1 v' (hl k++[o]).length ((hl k++[o]).flatMap boolC)) (e:Evo t W t' W' (·=20+k)) :
 DF w l b t' lv ev (updV hv k v') el (updV hl k (hl k++[o])) (W'.setCell ⟨b,4+k,none⟩ v'):=by
 have hlt:=h.lt;have hb:=(e.block _ hlt (by rw [h.bt]; omega)).trans h.box;have ht:t' b=1:=(e.tag _ hlt).trans h.bt;have e2:Evo t' W' t' (W'.setCell ⟨b,4+k,none⟩ v') (·=1):=(Ybg _ _ _).setCell _ _ ht;have hzz:(hz t W).le (hz t' (W'.setCell ⟨b,4+k,none⟩ v')):=(e.hz (by omega)).trans (e2.hz (by omega));refine ⟨?_,ht,(h.fds.keep e (by omega)).keep e2 (by omega),fun j hj=>((h.exs j hj).keep e (by omega)).keep e2 (by omega),fun j hj=>?_,fun j hj x hx y hy=>⟨(h.ok j hj x hx y hy).1.mono hzz,(h.ok j hj x hx y hy).2⟩,(h.ev.trans (e.mono fun _ h=>by omega)).trans (e2.mono fun _ h=>by rw [h]; decide)⟩
 . rw [Zka hb];rcases (by omega:k=0\/k=1\/k=2) with rfl|rfl|rfl<;>simp [updV]
 . by_cases hjk:j=k
   . subst hjk;rw [Zj7,Zj7]; exact hr.keep e2 (by omega)
   . rw [Zj8 hjk,Zj8 hjk];exact ((h.has j hj).keep e (by omega)).keep e2 (by omega)
end
end Go.Proofs.YtikannmgllejfaaGreatDoor
