/- The walks of types. -/
import Derived.Test.YtpfhhikbaeknpaaGreatDoorKT3
import Derived.Test.YtpfhhikbaeknpaaGreatDoorKVe
set_option maxHeartbeats 2000000
set_option maxRecDepth 1000000
set_option linter.all false
namespace Go.Proofs.YtpfhhikbaeknpaaGreatDoor
open Go.RowKit Pal
theorem Zg1 (h:GH):StrsV h (.slice none 0 0) []:=⟨none,0,rfl,fun _=>rfl,by simp,by simp [maxLen],fun j x hx=>by simp at hx⟩
def typePost (r:Int × Int) (w:World) (e:Ending) (w':World):Prop:=e = .returned (.tuple #[.int .i64 r.1,.int .i64 r.2])∧Below w.heap.size w w'
theorem Zg2 (e:Ex) (v nv tv:Value) (names:List Bs) (types:List Int) (w:World) (hF:Fine e) (hL:Lay (gh w)) (hE:EV (gh w) v e) (hN:StrsV (gh w) nv names) (hT:IntsV (gh w) tv types) :
 Calls Tryz.prog 50 #[v,nv,tv] w (typePost (typeOf e names types) w):=by
 obtain ⟨kv,rfl,hK⟩:=hE
 obtain ⟨a,cap,rfl⟩:=hK.form
 have hb:=(Below.refl w.heap.size w).alloc Zs (.cells #[.int .i64 e.op,.int .i64 e.n,.string ⟨e.s.toArray⟩,.slice a e.ks.length cap] 61)
 have hck:=Zdt e (exV e.op e.n e.s (.slice a e.ks.length cap)) _ hF (hL.below hb) ⟨_,rfl,hK.keep hb⟩
 unfold exV strV at hck
 have HC:=Zq hck
 have HBB:=Zq hb
 clear hck hb
 unfold exV strV
 go_in
 go_wp2_with fail
 refine HC.out.mono ?_
 rintro r W1 ⟨rfl,hb1⟩
 have hb2:=HBB.out.seq hb1
 have hblk:W1.heap[w.heap.size]?=some (.cells #[.int .i64 e.op,.int .i64 e.n,.string ⟨e.s.toArray⟩,.slice a e.ks.length cap] 61 (0,0)):=by
  rw [hb1.block _ (by simp)]; exact heap_alloc_new w _
 obtain ⟨c0,c1,c2,c3⟩:=Zc7 hblk
 cases hc:check e with
 | false =>
  have HT:Hid (typeOf e names types=(0,6)):=Zq (by unfold typeOf; rw [hc]; rfl)
  clear hc hb1 HC hblk
  go_wp2
  go_ret2
  refine ⟨?_,hb2⟩
  rw [HT.out]; rfl
 | true =>
  have hA:=Zez hc
  have ho:=ZeK names types nv tv e (.slice a e.ks.length cap) W1 hA (hN.mono (Zah hb2)) (hT.mono (Zah hb2)) (hK.keep hb2)
  unfold exV strV at ho
  have HO:=Zq ho
  have HT:Hid (typeOf e names types=(valE (typ names types e),errE (typ names types e))):=Zq (by unfold typeOf; rw [hc]; cases typ names types e<;>rfl)
  clear hc hb1 HC hblk ho
  go_wp2_with fail
  refine HO.out.mono ?_
  rintro r W2 ⟨rfl,hb3⟩
  have hb4:=hb2.seq hb3
  go_wp2
  go_ret2
  refine ⟨?_,hb4⟩
  rw [HT.out]; rfl
theorem Zg3 {l:Bs} {e:Ex} (h:parseM l = .ok e):Fine e:=by
 unfold parseM at h
 by_cases hl:400<l.length
 · rw [if_pos hl] at h; cases h
 rw [if_neg hl] at h
 cases hx:lexAll l with
 | error p=>rw [hx] at h; cases h
 | ok ts =>
  rw [hx] at h
  simp only at h
  cases hr:readL ts with
  | error q=>rw [hr] at h; cases h
  | ok e' =>
   rw [hr] at h
   simp only at h
   by_cases hc:check e'=true
   · rw [if_pos hc] at h; cases h
     exact ZgV (ZgM (by omega) hx).2.2 hr
   · rw [if_neg hc] at h; cases h
theorem Zg4 {l:Bs} {e:Ex} (h:parseM l = .ok e):check e=true:=by
 unfold parseM at h
 by_cases hl:400<l.length
 · rw [if_pos hl] at h; cases h
 rw [if_neg hl] at h
 cases hx:lexAll l with
 | error p=>rw [hx] at h; cases h
 | ok ts =>
  rw [hx] at h
  simp only at h
  cases hr:readL ts with
  | error q=>rw [hr] at h; cases h
  | ok e' =>
   rw [hr] at h
   simp only at h
   by_cases hc:check e'=true
   · rw [if_pos hc] at h; cases h; exact hc
   · rw [if_neg hc] at h; cases h
theorem Zg5 (s:ByteArray) (p:Nat) (k:Int) (w:World) (hm:s.size≤9223372036854775807) (hp:parseM s.data.toList = .error (p,k)) (hL:Lay (gh w)) :
 Calls Tryz.prog 49 #[.string s] w fun r w'=>Below w.heap.size w w'∧r = .returned (.tuple #[.agg #[.int .i64 0,.int .i64 0,.string ⟨#[]⟩,.slice none 0 0],.int .i64 p,.int .i64 k]):=by
 refine (Zg0 s w hm hL).mono ?_
 rintro r w' ⟨hb,h⟩
 rw [hp] at h
 exact ⟨hb,h⟩
theorem Zg6 {w:World} {b:Nat} (l:List Int) (T:TypeId) (h:w.heap[b]?=some (.cells (l.map (Value.int .i64)).toArray T (0,0))) (hm:l.length≤17592186044416):IntsV (gh w) (.slice (some ⟨b,0,none⟩) l.length l.length) l:=by
 refine ⟨_,_,rfl,fun h=>(by cases h),hm,fun j s hj=>⟨b,0,rfl,?_⟩⟩
 rw [Zad]
 simp [World.cell?,h,hj]
def yesPost (w:World) (e:Ending) (w':World):Prop:=e = .returned (.bool true)∧Below w.heap.size w w'
end Go.Proofs.YtpfhhikbaeknpaaGreatDoor
