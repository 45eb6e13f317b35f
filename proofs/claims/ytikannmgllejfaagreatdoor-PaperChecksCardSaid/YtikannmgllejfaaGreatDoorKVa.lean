/- The walks of runes. -/
import Derived.Test.YtikannmgllejfaaGreatDoorKSb
import Derived.Test.YtikannmgllejfaaGreatDoorKPl
import Derived.Test.YtikannmgllejfaaGreatDoorKLx
set_option maxHeartbeats 4000000
set_option maxRecDepth 1000000
set_option linter.all false
namespace Go.Proofs.YtikannmgllejfaaGreatDoor
open Go.RowKit Pal
theorem ZbW (s:ByteArray) (w:World) (hs:0<s.size) (hL:Lay (gh w)) :
 Calls Tryz.prog 166 #[.string s,.int .i64 0] w fun e w'=>e = .returned (.tuple #[.int .i32 (rn s.data.toList),.int .i64 (wd s.data.toList),.bool true])/\Below w.heap.size w w':=by
 have hne:s.data.toList≠[]:=fun h=>by have:s.data.toList.length=0:=(by rw [h]; rfl);have h2:s.data.toList.length=s.size:=rfl;omega
 have hd:dRune s 0=rn s.data.toList:=by rw [ZaL,List.drop_zero]
 have HD:=Zq hd;clear hd;go_in;go_wp2;refine wp_loop_rounds 1 ?_;rw [Yba];have hnx:∀ ty,(Instr.next (.pointer (some ⟨w.heap.size,0,none⟩)) true ty).run Tryz.prog (w.iter s 0) = .ok (.tuple #[.bool true,.int .i64 (0:Nat),.int .i32 (dRune s 0)]) ((w.iter s 0).iterAt w.heap.size s (0+dLen s 0)):=fun ty=>Lib.run_next_any_at _ w.heap.size s 0 ty (World.iter_heap w s 0) hs;have hb0:Below w.heap.size w (w.iter s 0):=(Yab w.heap.size w).alloc Zs (.stringIter s 0);have hb:=Lib.below_iterAt hb0 (k:=w.heap.size) Zs s (0+dLen s 0);generalize hW:(w.iter s 0).iterAt w.heap.size s (0+dLen s 0)=W at hnx hb;clear hW hb0;go_wp2_with fail;refine (ZbH s _ hne (hL.below hb)).mono ?_;rintro e W1 ⟨rfl,hb1⟩;rw [HD.out];have hb2:=hb.trans (hb1.mono hb.size);go_wp2;go_ret3;exact ⟨rfl,hb2⟩
theorem ZbX (c:UInt8):(Lib.indexByte [48,49,50,51,52,53,54,55,56,57,97,98,99,100,101,102] c)=(hexD c.toNat).getD (-1):=by
 have h:∀ n:Fin 256,(Lib.indexByte [48,49,50,51,52,53,54,55,56,57,97,98,99,100,101,102] (UInt8.ofNat n.val))=(hexD n.val).getD (-1):=by decide +kernel
 have:=h ⟨c.toNat,c.toNat_lt⟩;simpa using this
def escV (s:Bs):Value:=match escL s with|some (r,z) => .tuple #[.int .i32 r,.int .i64 z]|none => .tuple #[.int .i32 0,.int .i64 0]
theorem ZbY {s:ByteArray} {k:Nat} (h:k<s.size):((s[k]'h).toNat:Int)=bk s.data.toList k:=by rw [<-ZaJ];have:=get_at s k h;rw [Nat.add_zero] at this;rw [this]
theorem ZbZ (s:ByteArray) (w:World) (h1:1<s.size) (hq:(s[1]'h1).toNat=34\/(s[1]'h1).toNat=92) :
 Calls Tryz.prog 168 #[.string s] w fun e w'=>e = .returned (escV s.data.toList)/\Below w.heap.size w w':=by
 have hE:escV s.data.toList = .tuple #[.int .i32 ((s[1]'h1).toNat:Int),.int .i64 2]:=by have hb:=ZbY h1;unfold escV escL;rw [if_pos (by omega),hb];rfl
 rw [hE];clear hE;have hlt:(s[1]'h1).toNat<256:=(s[1]'h1).toNat_lt;rcases hq with hq|hq
 . have q1:((((s[1]'h1).toNat:Int)) == 34)=true:=(by simp [hq]);clear hq;go_in;go_wp2;go_ret2;exact ⟨rfl,Yab _ _⟩
 . have q1:((((s[1]'h1).toNat:Int)) == 34)=false:=(by simp [hq]);have q2:((((s[1]'h1).toNat:Int)) == 92)=true:=(by simp [hq]);clear hq;go_in;go_wp2;go_ret2;exact ⟨rfl,Yab _ _⟩
theorem Zb0:hexD 0=none:=by decide
theorem Zb1 (n:Nat) (h:n<256):Lib.indexByte (ByteArray.mk #[48,49,50,51,52,53,54,55,56,57,97,98,99,100,101,102]).data.toList (((n:Nat):Int).toNat.toUInt8)=(hexD n).getD (-1):=by
 have e:((n:Int).toNat.toUInt8).toNat=n:=by simp; omega
 have:=ZbX ((n:Int).toNat.toUInt8);rw [e] at this;exact this
theorem Zb2 {s:ByteArray} (h:escL s.data.toList=none):escV s.data.toList = .tuple #[.int .i32 0,.int .i64 0]:=by unfold escV; rw [h]
theorem Zb3 (s:ByteArray) (w:World) (h1:s.size<=1) :
 Calls Tryz.prog 168 #[.string s] w fun e w'=>e = .returned (escV s.data.toList)/\Below w.heap.size w w':=by
 have hE:escL s.data.toList=none:=by have:bk s.data.toList 1=0:=ZaF (show s.size<=1 from h1);unfold escL;rw [if_neg (by omega),if_neg (by omega)]
 rw [Zb2 hE];clear hE;have h2:s.size<6:=by omega
 go_in;go_wp2;go_ret2;exact ⟨rfl,Yab _ _⟩
theorem Zb4 (s:ByteArray) (w:World) (h1:1<s.size) (h6:s.size<6) (q1:(((s[1]'h1).toNat:Int) == 34)=false) (q2:(((s[1]'h1).toNat:Int) == 92)=false) :
 Calls Tryz.prog 168 #[.string s] w fun e w'=>e = .returned (escV s.data.toList)/\Below w.heap.size w w':=by
 have hb:=ZbY h1;have hE:escL s.data.toList=none:=by
  have h5:bk s.data.toList 5=0:=ZaF (show s.size<=5 by omega);have:=beq_eq_false_iff_ne.1 q1;have:=beq_eq_false_iff_ne.1 q2;unfold escL;rw [if_neg (by omega)];split
  . rw [h5,Zb0];split
    . rename_i h; cases h
    . rfl
  . rfl
 rw [Zb2 hE];clear hE hb;go_in;go_wp2;go_ret2;exact ⟨rfl,Yab _ _⟩
theorem Zb5 (s:ByteArray) (w:World) (h1:1<s.size) (h6:6<=s.size) (q1:(((s[1]'h1).toNat:Int) == 34)=false) (q2:(((s[1]'h1).toNat:Int) == 92)=false) (q3:(((s[1]'h1).toNat:Int) != 117)=true) :
 Calls Tryz.prog 168 #[.string s] w fun e w'=>e = .returned (escV s.data.toList)/\Below w.heap.size w w':=by
 have hb:=ZbY h1;have hE:escL s.data.toList=none:=by have:=beq_eq_false_iff_ne.1 q1;have:=beq_eq_false_iff_ne.1 q2;have:=Yao.1 q3;unfold escL;rw [if_neg (by omega),if_neg (by omega)]
 rw [Zb2 hE];clear hE hb;go_in;go_wp2;go_ret2;exact ⟨rfl,Yab _ _⟩
theorem or16 (h v:Int) (h0:0<=h) (h1:h<4096) (v0:0<=v) (v1:v<16):bits .or .i32 (wrap32 (h*16)) v=h*16+v:=by
 obtain ⟨a,rfl⟩:=Int.eq_ofNat_of_zero_le h0;obtain ⟨b,rfl⟩:=Int.eq_ofNat_of_zero_le v0;rw [IntWalk.wrap32_in _ (by omega)];have e:bits .or .i32 ((a:Int)*16) (b:Int)=IntKind.i32.wrap ((BitVec.ofNat 32 (a*16) ||| BitVec.ofNat 32 b).toNat:Int):=by have e1:BitVec.ofInt 32 ((a:Int)*16)=BitVec.ofNat 32 (a*16):=(by rw [show ((a:Int)*16)=((a*16:Nat):Int) from by omega]; exact BitVec.ofInt_natCast _ _);have e2:BitVec.ofInt 32 (b:Int)=BitVec.ofNat 32 b:=BitVec.ofInt_natCast _ _;show IntKind.i32.wrap ((BitVec.ofInt 32 ((a:Int)*16) ||| BitVec.ofInt 32 (b:Int)).toNat:Int)=_;rw [e1,e2]
 rw [e,BitVec.toNat_or,BitVec.toNat_ofNat,BitVec.toNat_ofNat,Nat.mod_eq_of_lt (by omega),Nat.mod_eq_of_lt (by omega)];have e3:a*16 ||| b=a*16+b:=by have:=Nat.shiftLeft_add_eq_or_of_lt (i:=4) (b:=b) (show b<2 ^ 4 by omega) a;rw [Nat.shiftLeft_eq] at this;exact this.symm
 rw [e3,IntWalk.i32_left,IntWalk.wrap32_in _ (by omega)];omega
def hxN (l:Bs):Nat->Int
 | 0=>0
 | k+1=>hxN l k*16+(hexD (bk l (2+k))).getD 0
theorem Zb6 (l:Bs):∀ k,0<=hxN l k/\hxN l k<16 ^ k:=by
 intro k;induction k with
 | zero=>simp [hxN]
 | succ k ih =>
  have h:0<=(hexD (bk l (2+k))).getD 0/\(hexD (bk l (2+k))).getD 0<16:=by
   cases e:hexD (bk l (2+k)) with
   | none=>simp
   | some v=>have:=Za7 e; simp; omega
  have hp:(16:Int) ^ (k+1)=16*16 ^ k:=(by rw [Int.pow_succ,Int.mul_comm]);unfold hxN;rw [hp];generalize (16:Int) ^ k=P at *;omega
theorem Zb7 {l:Bs} {k:Nat} {v:Int} (h:hexD (bk l (2+k))=some v) (hk:k<4):bits .or .i32 (wrap32 (hxN l k*16)) v=hxN l (k+1):=by
 have hv:=Za7 h;have hr:=Zb6 l k;have hp:(16:Int) ^ k<=4096:=by rcases (by omega:k=0\/k=1\/k=2\/k=3) with rfl|rfl|rfl|rfl<;>decide
 rw [or16 _ _ hr.1 (by omega) hv.1 hv.2.1];show _=hxN l k*16+(hexD (bk l (2+k))).getD 0;rw [h];rfl
theorem Zb8 {l:Bs} (h1:bk l 1=117) (h:∀ j,j<4->(hexD (bk l (2+j))).isSome=true):escL l=if 55296<=hxN l 4/\hxN l 4<=57343 then none else some (hxN l 4,6):=by
 obtain ⟨a,ha⟩:=Option.isSome_iff_exists.1 (h 0 (by omega));obtain ⟨b,hb⟩:=Option.isSome_iff_exists.1 (h 1 (by omega));obtain ⟨c,hc⟩:=Option.isSome_iff_exists.1 (h 2 (by omega));obtain ⟨d,hd⟩:=Option.isSome_iff_exists.1 (h 3 (by omega));simp only [Nat.add_zero] at ha hb hc hd;have e:hxN l 4=hex4 a b c d:=by simp only [hxN,hex4,ha,hb,hc,hd,Nat.reduceAdd,Option.getD_some];omega
 unfold escL;rw [if_neg (by omega),if_pos h1,e];simp only [ha,hb,hc,hd]
theorem Zb9 {l:Bs} {k:Nat} (h1:bk l 1=117) (hk:k<4) (h:hexD (bk l (2+k))=none):escL l=none:=by
 unfold escL;rw [if_neg (by omega),if_pos h1];split
 . rename_i a b c d ha hb hc hd;rcases (by omega:k=0\/k=1\/k=2\/k=3) with rfl|rfl|rfl|rfl
   . rw [ha] at h; cases h
   . rw [hb] at h; cases h
   . rw [hc] at h; cases h
   . rw [hd] at h; cases h
 . rfl
theorem Zca (s:ByteArray) (k:Nat) (hk:k<4):(((s.extract 2 6).data.toList.getD k 0).toNat:Int)=bk s.data.toList (2+k):=by
 unfold bk;have:(s.extract 2 6).data.toList=(s.data.toList.take 6).drop 2:=by simp [ByteArray.data_extract,List.drop_take]
 rw [this,Yau,Yau,List.getElem?_drop,List.getElem?_take,if_pos (by omega)]
theorem Zcb (s:ByteArray) (h:6<=s.size):(s.extract 2 6).size=4:=by rw [ByteArray.size_extract]; omega
theorem Zcc (s:ByteArray) (w:World) (h1:1<s.size) (h6:6<=s.size) (q1:(((s[1]'h1).toNat:Int) == 34)=false) (q2:(((s[1]'h1).toNat:Int) == 92)=false) (q3:(((s[1]'h1).toNat:Int) != 117)=false) :
 Calls Tryz.prog 168 #[.string s] w fun e w'=>e = .returned (escV s.data.toList)/\Below w.heap.size w w':=by
 have hcv:=Lib.run_convert_string_bytes (P:=Tryz.prog) w 9 220 5 (s.extract 2 6) (u := .string) Tryz.underlying9 Tryz.underlying220 Tryz.underlying5;rw [Zcb s h6] at hcv;have hcell:∀ k:Nat,k<4->(Lib.bytesWorld w 5 (s.extract 2 6)).cell? ⟨w.heap.size,k,none⟩=some (.int .u8 (bk s.data.toList (2+k))):=fun k hk=>by rw [Lib.bytesWorld_cell w _ _ k (by rw [Zcb s h6]; exact hk),Zca s k hk]
 have hbw:Below w.heap.size w (Lib.bytesWorld w 5 (s.extract 2 6)):=by unfold Lib.bytesWorld;exact Lib.below_freeze (((Yab _ w).drew).alloc Zs _) Zs _
 generalize Lib.bytesWorld w 5 (s.extract 2 6)=W at hcv hcell hbw;generalize grownCap w 4 0 5=C at hcv;have HB:=Zq (ZbY h1);have HC:=Zq hcell;have HW:=Zq hbw;clear hcell hbw;go_in;go_wp2;go_loop [4,36] (fun n i=>∃ k:Nat,k<=4/\i = .int .i64 k/\n = .int .i32 (hxN s.data.toList k)/\Hid (∀ j,j<k->(hexD (bk s.data.toList (2+j))).isSome=true)) (fun _ i=>4 - (intOf i).toNat);case atStart=>exact ⟨0,by omega,rfl,rfl,Zq (fun j hj=>by omega)⟩
 case round =>
  obtain ⟨k,hk,rfl,rfl,HS⟩:=hrel;by_cases hlt:k<4
  . have hc:=HC.out k hlt;have hb:=ZaE s.data.toList (2+k);cases hx:hexD (bk s.data.toList (2+k)) with
    | none =>have HX:=Zq (Zb1 _ hb);have HN:=Zq hx;clear hx;go_wp2_with fail;refine (ZbL _ _ _).mono ?_;rintro e W1 ⟨rfl,rfl⟩;rw [HX.out,HN.out];go_wp2;go_ret2;refine ⟨?_,HW.out⟩;rw [Zb2 (Zb9 (by have:=bne_eq_false_iff_eq.1 q3; have:=HB.out; omega) hlt HN.out)];rfl
    | some v =>
     have hv:=Za7 hx;have HX:=Zq (Zb1 _ hb);have HN:=Zq hx;have hr:=Zb6 s.data.toList k;clear hx;go_wp2_with fail;refine (ZbL _ _ _).mono ?_;rintro e W1 ⟨rfl,rfl⟩;rw [HX.out,HN.out];go_wp2;refine ⟨⟨k+1,by omega,by go_num,by rw [Zb7 HN.out hlt],Zq (fun j hj=>?_)⟩,by simp [intOf]; omega⟩;by_cases e:j=k
     . rw [e,HN.out]; rfl
     . exact HS.out j (by omega)
  . obtain rfl:k=4:=(by omega);have hE:=Zb8 (l:=s.data.toList) (by have:=bne_eq_false_iff_eq.1 q3; have:=HB.out; omega) HS.out;have hr:=Zb6 s.data.toList 4;by_cases g1:55296<=hxN s.data.toList 4
    . by_cases g2:hxN s.data.toList 4<=57343
      . rw [if_pos ⟨g1,g2⟩] at hE;have HE:=Zq (Zb2 hE);clear hE;go_wp2;go_ret2;exact ⟨by rw [HE.out]; rfl,HW.out⟩
      . rw [if_neg (fun h=>g2 h.2)] at hE;have HE:=Zq hE;clear hE;go_wp2;go_ret2;exact ⟨by unfold escV; rw [HE.out]; rfl,HW.out⟩
    . rw [if_neg (fun h=>g1 h.1)] at hE;have HE:=Zq hE;clear hE;go_wp2;go_ret2;exact ⟨by unfold escV; rw [HE.out]; rfl,HW.out⟩
theorem Zcd (s:ByteArray) (w:World) :
 Calls Tryz.prog 168 #[.string s] w fun e w'=>e = .returned (escV s.data.toList)/\Below w.heap.size w w':=by
 by_cases h1:1<s.size
 . by_cases a:(s[1]'h1).toNat=34\/(s[1]'h1).toNat=92
   . exact ZbZ s w h1 a
   . have q1:(((s[1]'h1).toNat:Int) == 34)=false:=Zr (by omega);have q2:(((s[1]'h1).toNat:Int) == 92)=false:=Zr (by omega);by_cases h6:6<=s.size
     . by_cases b:(s[1]'h1).toNat=117
       . exact Zcc s w h1 h6 q1 q2 (by rw [bne_eq_false_iff_eq]; omega)
       . exact Zb5 s w h1 h6 q1 q2 (Yao.2 (by omega))
     . exact Zb4 s w h1 (by omega) q1 q2
 . exact Zb3 s w (by omega)
theorem Zce {T e:TypeId} {B b:Nat} {bs:List Value} {w w':World} (h:Lib.IsBuilderF T e B b bs w) (hb:Below w.heap.size w w'):Lib.IsBuilderF T e B b bs w':=by
 have one:∀ p,Lib.BuilderAtF T e B b p bs w->Lib.BuilderAtF T e B b p bs w':=by
  rintro p ⟨hB,v,hc,hown,hne⟩;refine ⟨hB,v,?_,⟨hown.1,?_⟩,hne⟩
  . rw [hb.block _ (Yaa.1 hc).1]; exact hc
  . rcases hown.2 with hn|⟨g,cap,cur,fz,hv,hg,hh,rest⟩
    . exact .inl hn
    . exact .inr ⟨g,cap,cur,fz,hv,hg,by rw [hb.block _ (Yaa.1 hh).1]; exact hh,rest⟩
 exact h.elim (fun x => .inl (one _ x)) (fun x => .inr (one _ x))
theorem Zcf (s:ByteArray) (i:Nat):(s.extract i s.size).data.toList=s.data.toList.drop i:=by rw [ByteArray.data_extract];simp only [Array.toList_extract,List.extract_eq_take_drop];exact List.take_of_length_le (by rw [Yav]; exact Nat.le_refl _)
theorem Zcg (s:ByteArray):s.data.toList.length=s.size:=rfl
theorem Zch {l:Bs} {r:Int} {z:Nat} (h:escL l=some (r,z)):0<=r/\r<=65535/\¬ (55296<=r/\r<=57343)/\2<=z:=by
 unfold escL at h;split at h
 . simp only [Yai,Yaw] at h;obtain ⟨rfl,rfl⟩:=h;have:=ZaE l 1;omega
 . split at h
   . split at h
     . rename_i a b c d ha hb hc hd;have:=Za7 ha; have:=Za7 hb; have:=Za7 hc; have:=Za7 hd;split at h
       . cases h
       . simp only [Yai,Yaw] at h;obtain ⟨rfl,rfl⟩:=h;unfold hex4 at *;omega
     . cases h
   . cases h
def unqV (x:Option (Bs × Nat × Nat)):Value:=match x with|some (t,_,y) => .tuple #[strV t,.int .i64 (1+y:Nat),.bool true]|none => .tuple #[strV [],.int .i64 0,.bool false]
def pre (acc:Bs) (m y:Nat) (x:Option (Bs × Nat × Nat)):Option (Bs × Nat × Nat):=match x with|some (t,n,z)=>some (acc++t,m+n,y+z)|none=>none
theorem Zci {f:Nat}:unqL f []=none:=by cases f<;>simp [unqL]
theorem Zcj {f:Nat} {l:Bs} (hn:l≠[]) (h:rn l=34):unqL (f+1) l=some ([],0,1):=by unfold unqL; rw [if_neg hn,if_pos h]
theorem Zck {f:Nat} {l:Bs} (hn:l≠[]) (h:rn l≠34) (h2:rn l≠92) (hb:badIn l):unqL (f+1) l=none:=by unfold unqL; rw [if_neg hn,if_neg h,if_neg h2,if_pos hb]
theorem Zcl {f:Nat} {l:Bs} (hn:l≠[]) (h:rn l≠34) (h2:rn l≠92) (hb:¬ badIn l):unqL (f+1) l=pre (Lib.encodeRune (rn l)) 1 (wd l) (unqL f (l.drop (wd l))):=by
 conv=>lhs; unfold unqL
 rw [if_neg hn,if_neg h,if_neg h2,if_neg hb];unfold pre;split<;>rename_i e<;>simp only [e,Nat.add_comm]
theorem Zcm {f:Nat} {l:Bs} (hn:l≠[]) (h2:rn l=92) {r:Int} {z:Nat} (he:escL l=some (r,z)):unqL (f+1) l=pre (Lib.encodeRune r) 1 z (unqL f (l.drop z)):=by
 conv=>lhs; unfold unqL
 rw [if_neg hn,if_neg (by omega),if_pos h2,he];simp only;unfold pre;split<;>rename_i e<;>simp only [e,Nat.add_comm]
theorem Zcn {f:Nat} {l:Bs} (hn:l≠[]) (h2:rn l=92) (he:escL l=none):unqL (f+1) l=none:=by unfold unqL;rw [if_neg hn,if_neg (by omega),if_pos h2,he]
theorem Zco (a b:Bs) (m n y z:Nat) (x:Option (Bs × Nat × Nat)):pre a m y (pre b n z x)=pre (a++b) (m+n) (y+z) x:=by
 cases x with
 | none=>rfl
 | some t=>simp [pre,Nat.add_assoc]
theorem Zcp (acc:Bs) (r:Int):Lib.byteCells acc++Lib.runeCells r=Lib.byteCells (acc++Lib.encodeRune r):=by rw [Lib.byteCells_append,Lib.byteCells_encodeRune]
theorem Zcq {s t:Bs} {a b:Int} {c d:Bool} (h1:s=t) (h2:a=b) (h3:c=d):Ending.returned (.tuple #[.string ⟨s.toArray⟩,.int .i64 a,.bool c]) = .returned (.tuple #[strV t,.int .i64 b,.bool d]):=by rw [h1,h2,h3]; rfl
theorem Zcr (s:ByteArray) (w:World) (hs:0<s.size) (hq:(((s[0]'hs).toNat:Int) == 34)=true) (hm:s.size<=1000000) (hL:Lay (gh w)) :
 Calls Tryz.prog 117 #[.string s] w fun e w'=>e = .returned (unqV (unqL s.size (s.data.toList.drop 1)))/\Below w.heap.size w w':=by
 obtain ⟨R,hR⟩:∃ R,unqL s.size (s.data.toList.drop 1)=R:=⟨_,rfl⟩;rw [hR];have HRR:=Zq hR;clear hR;go_in;go_wp2;go_loopg [6] s.size (fun g i wr=>∃ (k m:Nat) (acc:Bs),i = .int .i64 (k+1:Nat)/\Lib.IsBuilderF 222 5 w.heap.size w.heap.size (Lib.byteCells acc) wr/\Below w.heap.size w wr /\
  Hid (pre acc m k (unqL g (s.data.toList.drop (k+1)))=R)/\s.size<=k+1+g/\acc.length<=4*k/\k<=s.size)
 case atStart =>
  refine ⟨0,0,[],rfl,Lib.IsBuilderF.of (Lib.fresh_isBuilder _ _ w),(Yab _ w).alloc Zs _,Zq ?_,by omega,by simp,by omega⟩;rw [<-HRR.out];generalize unqL s.size (s.data.toList.drop (0+1))=X;cases X with
  | none=>rfl
  | some t=>simp [pre]
 case round =>
  obtain ⟨k,m,acc,rfl,hI,hbw,HR,hg,hal,hk⟩:=hrel;by_cases hlt:k+1<s.size
  . obtain ⟨f,rfl⟩:∃ f,gk=f+1:=⟨gk - 1,by omega⟩;have hll:(s.data.toList.drop (k+1)).length=s.size - (k+1):=(by rw [Yav]; rfl);have hne:s.data.toList.drop (k+1)≠[]:=fun h=>by rw [h] at hll; simp at hll; omega
    have HX:=Zq (Zcf s (k+1));have hxs:0<(s.extract (k+1) s.size).size:=(by rw [ByteArray.size_extract]; omega);have hw1:=ZaQ (s.data.toList.drop (k+1));have hw4:=ZaR (s.data.toList.drop (k+1));have hwl:=ZaS hne;rw [hll] at hwl;have hr:=ZaV (s.data.toList.drop (k+1));have Hne:=Zq hne;have Hes:=Zq (@Zcm f (s.data.toList.drop (k+1)) hne);have Hno:=Zq (@Zcn f (s.data.toList.drop (k+1)) hne);have Hqu:=Zq (@Zcj f (s.data.toList.drop (k+1)) hne);have Hbd:=Zq (@Zck f (s.data.toList.drop (k+1)) hne);have Hgo:=Zq (@Zcl f (s.data.toList.drop (k+1)) hne);unfold badIn at Hbd Hgo;have Hrn:=Zq (fun h=>(rn_92 (l:=s.data.toList.drop (k+1))).1 h);clear hne;have HDD:=Zq (fun z:Nat=>(List.drop_drop (i:=z) (j:=k+1) (l:=s.data.toList)));generalize s.data.toList.drop (k+1)=l at *;go_wp2_with fail;refine (ZbW (s.extract (k+1) s.size) _ hxs (hL.below hbw)).mono ?_;rintro e W1 ⟨rfl,hb1⟩;rw [HX.out];have hI1:=Zce hI hb1;have hbw1:=hbw.trans (hb1.mono hbw.size);have hs1:=hbw1.size;clear hI hb1 hbw;generalize hrr:rn l=r at *;generalize hzz:wd l=z at *;by_cases c1:r=34
    . have C1:(r == 34)=true:=(by simp [c1]);have HE:=Zq (Hqu.out c1);clear c1;go_wp2_with fail;refine (Tryz.Builder_String_any_k _ _ _ _ hI1 hs1).mono ?_;rintro e W2 ⟨rfl,_,hb2,_⟩;go_wp2;go_ret3;refine ⟨?_,hbw1.trans hb2⟩;rw [<-HR.out,HE.out];exact Zcq (by simp) (by simp; omega) rfl
    have C1:(r == 34)=false:=Zr c1;by_cases c2:r=92
    . have C2:(r == 92)=true:=(by simp [c2]);have c2h:=Zq c2;clear c2 c1;cases hE:escL l with
      | none =>have HE:=Zq (Hno.out c2h.out hE);have HV:=Zq (Zb2 (s:=s.extract (k+1) s.size) (by rw [HX.out]; exact hE));clear hE;go_wp2_with fail;refine (Zcd (s.extract (k+1) s.size) _).mono ?_;rintro e W2 ⟨rfl,hb2⟩;rw [HV.out];go_wp2;go_ret3;refine ⟨?_,hbw1.trans (hb2.mono hs1)⟩;rw [<-HR.out,HE.out];rfl
      | some rz =>
       obtain ⟨q,y⟩:=rz;have hy3:k+y<=s.size:=(by have:=(Za8 (Hrn.out c2h.out) hE).1.le;omega);have hq2:=Zch hE;have HE:=Zq (Hes.out c2h.out hE);have HV:Hid (escV (s.extract (k+1) s.size).data.toList = .tuple #[.int .i32 q,.int .i64 y]):=Zq (by unfold escV; rw [HX.out,hE]);clear hE;go_wp2_with fail;refine (Zcd (s.extract (k+1) s.size) _).mono ?_;rintro e W2 ⟨rfl,hb2⟩;rw [HV.out];have hI2:=Zce hI1 hb2;have hbw2:=hbw1.trans (hb2.mono hs1);have hs2:=hbw2.size;clear hI1 hbw1 hb2 hs1;have Y0:((y:Int) == 0)=false:=Zr (by omega);go_wp2_with fail;refine (ZbT _ _ _ q (by omega) (by omega) _ hI2 (by rw [Lib.byteCells_length]; omega) hs2).mono ?_;rintro e W3 ⟨rfl,hI3,hb3,_⟩;go_wp2;go_roundg f;case rel =>
        refine ⟨k+y,m+1,acc++Lib.encodeRune q,by go_num,?_,hbw2.trans hb3,Zq ?_,by omega,?_,hy3⟩
        . rw [<-Zcp]; exact hI3
        . rw [<-HR.out,HE.out,Zco,HDD.out y,show k+y+1=k+1+y by omega]
        . have:=Lib.runeCells_le q; rw [Lib.runeCells_length] at this; rw [Yak]; omega
       case measure=>omega
    have C2:(r == 92)=false:=Zr c2;by_cases hbad:(r=65533/\z=1)\/r<32\/(127<=r/\r<=159)
    . have HE:=Zq (Hbd.out c1 c2 hbad);have fin:∀ w1,Below w.heap.size w w1->Ending.returned (.tuple #[.string ⟨#[]⟩,.int .i64 0,.bool false])=Ending.returned (unqV R)/\Below w.heap.size w w1:=fun w1 h=>⟨by rw [<-HR.out,HE.out]; rfl,h⟩;have FIN:=Zq fin;clear fin c1 c2;rcases hbad with ⟨b1,b2⟩|b1|⟨b1,b2⟩
      . have B1:(r == 65533)=true:=(by simp [b1]);have B2:((z:Int) == 1)=true:=(by simp [b2]);clear b1 b2;go_wp2;go_ret3;exact FIN.out _ hbw1
      . have B1:(r == 65533)=false:=Zr (by omega);go_wp2;go_ret3;exact FIN.out _ hbw1
      . have B1:(r == 65533)=false:=Zr (by omega);have B3:¬ r<32:=(by omega);go_wp2;go_ret3;exact FIN.out _ hbw1
    . have HE:=Zq (Hgo.out c1 c2 hbad);have n1:¬ r<32:=fun h=>hbad (.inr (.inl h));have n2:¬ (127<=r/\r<=159):=fun h=>hbad (.inr (.inr h));have n3:¬ (r=65533/\z=1):=fun h=>hbad (.inl h);have Z0:((z:Int) == 0)=false:=Zr (by omega);clear hbad c1 c2;by_cases b1:r=65533
      . have B1:(r == 65533)=true:=(by simp [b1]);have B2:((z:Int) == 1)=false:=Zr (fun h=>n3 ⟨b1,by omega⟩);have b4:¬ r<=159:=(by omega);have b5:127<=r:=(by omega);clear b1 n3 n2;go_wp2_with fail;refine (ZbT _ _ _ r (by omega) (by omega) _ hI1 (by rw [Lib.byteCells_length]; omega) hs1).mono ?_;rintro e W3 ⟨rfl,hI3,hb3,_⟩;go_wp2;go_roundg f;case rel =>
         refine ⟨k+z,m+1,acc++Lib.encodeRune r,by go_num,?_,hbw1.trans hb3,Zq ?_,by omega,?_,by omega⟩
         . rw [<-Zcp]; exact hI3
         . rw [<-HR.out,HE.out,Zco,HDD.out z,show k+z+1=k+1+z by omega]
         . have:=Lib.runeCells_le r; rw [Lib.runeCells_length] at this; rw [Yak]; omega
        case measure=>omega
      . have B1:(r == 65533)=false:=Zr b1;clear b1 n3;by_cases b4:127<=r
        . have b5:¬ r<=159:=fun h=>n2 ⟨b4,h⟩;clear n2;go_wp2_with fail;refine (ZbT _ _ _ r (by omega) (by omega) _ hI1 (by rw [Lib.byteCells_length]; omega) hs1).mono ?_;rintro e W3 ⟨rfl,hI3,hb3,_⟩;go_wp2;go_roundg f;case rel =>
           refine ⟨k+z,m+1,acc++Lib.encodeRune r,by go_num,?_,hbw1.trans hb3,Zq ?_,by omega,?_,by omega⟩
           . rw [<-Zcp]; exact hI3
           . rw [<-HR.out,HE.out,Zco,HDD.out z,show k+z+1=k+1+z by omega]
           . have:=Lib.runeCells_le r; rw [Lib.runeCells_length] at this; rw [Yak]; omega
          case measure=>omega
        . clear n2;go_wp2_with fail;refine (ZbT _ _ _ r (by omega) (by omega) _ hI1 (by rw [Lib.byteCells_length]; omega) hs1).mono ?_;rintro e W3 ⟨rfl,hI3,hb3,_⟩;go_wp2;go_roundg f;case rel =>
           refine ⟨k+z,m+1,acc++Lib.encodeRune r,by go_num,?_,hbw1.trans hb3,Zq ?_,by omega,?_,by omega⟩
           . rw [<-Zcp]; exact hI3
           . rw [<-HR.out,HE.out,Zco,HDD.out z,show k+z+1=k+1+z by omega]
           . have:=Lib.runeCells_le r; rw [Lib.runeCells_length] at this; rw [Yak]; omega
          case measure=>omega
  . have hnil:s.data.toList.drop (k+1)=[]:=Yal (by rw [Yav,Zcg]; omega);have HE:Hid (R=none):=Zq (by rw [<-HR.out,hnil,Zci]; rfl);clear hnil;go_wp2;go_ret3;exact ⟨by rw [HE.out]; rfl,hbw⟩
def tokV (k:Int) (s:Bs) (n p:Int):Value := .agg #[.int .i64 k,strV s,.int .i64 n,.int .i64 p]
def oneV (x:Option (Int × Bs × Int × Nat)):Value:=match x with|some (k,s,n,z) => .tuple #[tokV k s n 0,.int .i64 z]|none => .tuple #[tokV 0 [] 0 0,.int .i64 0]
theorem Zcs (s:ByteArray) (i:Nat):(s.extract 0 i).data.toList=s.data.toList.take i:=by rw [ByteArray.data_extract];simp
theorem Zct {s:ByteArray} (h:0<s.size):s.data.toList≠[]:=fun e=>by
 have:s.data.toList.length=s.size:=rfl
 rw [e] at this; simp at this; omega
theorem Zcu {W:World} {B:Nat} (h:W.heap[B]?=some (.cells #[.int .i64 0,.string ⟨#[]⟩,.int .i64 0,.int .i64 0] 114 (0,0))) :
 (W.cell? ⟨B,0,none⟩=some (.int .i64 0)/\W.cell? ⟨B,1,none⟩=some (.string ⟨#[]⟩)/\W.cell? ⟨B,2,none⟩=some (.int .i64 0)/\W.cell? ⟨B,3,none⟩=some (.int .i64 0)) /\
 (W.frozen? ⟨B,0,none⟩=false/\W.frozen? ⟨B,1,none⟩=false/\W.frozen? ⟨B,2,none⟩=false/\W.frozen? ⟨B,3,none⟩=false):=by simp [World.cell?,World.frozen?,h]
theorem Zcv (s:ByteArray) (w:World) (hs:0<s.size) (hm:s.size<=1000000) (hc:cls (rn s.data.toList)=2) (hL:Lay (gh w)) :
 Calls Tryz.prog 88 #[.string s,.int .i64 2] w fun e w'=>e = .returned (oneV (tok1 s.data.toList))/\Below w.heap.size w w':=by
 have hne:=Zct hs;have hz:=Zbm hne hc;have hzl:=Za6 2 2 s.data.toList;rw [Zcg] at hzl;have hcs:=Zbo (l:=s.data.toList.take (run 2 2 s.data.toList)) (fun e=>by have h2:=congrArg List.length e;rw [List.length_take,Zcg,List.length_nil] at h2;omega) (Zbl _ _ Zs);have HT:Hid (tok1 s.data.toList=match numOf (s.data.toList.take (run 2 2 s.data.toList)) with|some v=>some (1,[],v,run 2 2 s.data.toList)|none=>none):=Zq (by unfold tok1; rw [if_pos hc]; rfl);have HX:=Zq (Zcs s (run 2 2 s.data.toList));have HR:=Zq (Za0 s 2 2);have hxs:(s.extract 0 (run 2 2 s.data.toList)).size<=1000000:=by rw [ByteArray.size_extract]; omega
 clear hc hne;obtain ⟨R,hR⟩:∃ R,tok1 s.data.toList=R:=⟨_,rfl⟩;rw [hR] at HT |-;clear hR;generalize run 2 2 s.data.toList=z at *;go_in;go_wp2_with fail;refine (ZaD s 2 2 _ (by omega) (by omega)).mono ?_;rintro e W1 ⟨rfl,hb1⟩;rw [HR.out];have hsz:=hb1.size;simp only [World.size_alloc] at hsz;rcases hcs with ⟨v,hv,hn⟩|⟨hv,hn⟩
 . have HV:=Zq hv;have HN:=Zq hn;clear hv hn;go_wp2_with fail;refine (ZbM (s.extract 0 z) (by omega) v (by rw [HX.out]; exact HV.out) _).mono ?_;rintro e W2 ⟨rfl,hb2⟩;have hblk:W2.heap[w.heap.size]?=some (.cells #[.int .i64 0,.string ⟨#[]⟩,.int .i64 0,.int .i64 0] 114 (0,0)):=(by rw [hb2.block _ (by omega),hb1.block _ (by simp)];exact Yac w _);obtain ⟨⟨c0,c1,c2,c3⟩,f0,f1,f2,f3⟩:=Zcu hblk;clear hblk;have hb:=(((Yab w.heap.size w).alloc Zs (.cells #[.int .i64 0,.string ⟨#[]⟩,.int .i64 0,.int .i64 0] 114 (0,0))).trans (hb1.mono (by simp))).trans (hb2.mono (by omega));go_wp2;refine Yaf (v:=oneV (some (1,[],v,z))) ?_ rfl ⟨?_,?_⟩
   . simp [results,Tryz.results88,go_sem,oneV,tokV,strV,c0,c1,c2,c3]
   . rw [HT.out,HN.out]
   . exact (((hb.setCell Zs _).setCell Zs _).setCell Zs _).setCell Zs _
 . have HV:=Zq hv;have HN:=Zq hn;clear hv hn;go_wp2_with fail;have hL1:Lay (gh W1):=hL.below ((((Yab w.heap.size w).alloc Zs (.cells #[.int .i64 0,.string ⟨#[]⟩,.int .i64 0,.int .i64 0] 114 (0,0))).trans (hb1.mono (by simp))));refine (ZbN (s.extract 0 z) (by omega) (by rw [HX.out]; exact HV.out) _ hL1).mono ?_;rintro e W2 ⟨⟨n,tt,pp,rfl⟩,hb2⟩;have hblk:W2.heap[w.heap.size]?=some (.cells #[.int .i64 0,.string ⟨#[]⟩,.int .i64 0,.int .i64 0] 114 (0,0)):=(by rw [hb2.block _ (by omega),hb1.block _ (by simp)];exact Yac w _);obtain ⟨⟨c0,c1,c2,c3⟩,f0,f1,f2,f3⟩:=Zcu hblk;clear hblk hL1;have hb:=(((Yab w.heap.size w).alloc Zs (.cells #[.int .i64 0,.string ⟨#[]⟩,.int .i64 0,.int .i64 0] 114 (0,0))).trans (hb1.mono (by simp))).trans (hb2.mono (by omega));go_wp2;refine Yaf (v:=oneV none) ?_ rfl ⟨?_,?_⟩
   . simp [results,Tryz.results88,go_sem,oneV,tokV,strV,c0,c1,c2,c3]
   . rw [HT.out,HN.out]
   . exact (((hb.setCell Zs _).setCell Zs _).setCell Zs _).setCell Zs _
theorem Zcw (s:ByteArray) (w:World) (hc:cls (rn s.data.toList)=1) :
 Calls Tryz.prog 88 #[.string s,.int .i64 1] w fun e w'=>e = .returned (oneV (tok1 s.data.toList))/\Below w.heap.size w w':=by
 have hzl:=Za6 1 2 s.data.toList;rw [Zcg] at hzl;have HT:Hid (tok1 s.data.toList=if run 1 2 s.data.toList<=24 then some (3,s.data.toList.take (run 1 2 s.data.toList),0,run 1 2 s.data.toList) else none):=Zq (by unfold tok1; rw [if_neg (by omega),if_pos hc]);have HX:=Zq (Zcs s (run 1 2 s.data.toList));have HR:=Zq (Za0 s 1 2);clear hc;obtain ⟨R,hR⟩:∃ R,tok1 s.data.toList=R:=⟨_,rfl⟩;rw [hR] at HT |-;clear hR;generalize run 1 2 s.data.toList=z at *;go_in;go_wp2_with fail;refine (ZaD s 1 2 _ (by omega) (by omega)).mono ?_;rintro e W1 ⟨rfl,hb1⟩;rw [HR.out];have hsz:=hb1.size;simp only [World.size_alloc] at hsz;have hblk:W1.heap[w.heap.size]?=some (.cells #[.int .i64 0,.string ⟨#[]⟩,.int .i64 0,.int .i64 0] 114 (0,0)):=by rw [hb1.block _ (by simp)];exact Yac w _
 obtain ⟨⟨c0,c1,c2,c3⟩,f0,f1,f2,f3⟩:=Zcu hblk;clear hblk;have hb:=(((Yab w.heap.size w).alloc Zs (.cells #[.int .i64 0,.string ⟨#[]⟩,.int .i64 0,.int .i64 0] 114 (0,0))).trans (hb1.mono (by simp)));by_cases hz:z<=24
 . have HT2:Hid (R=some (3,s.data.toList.take z,0,z)):=Zq (by rw [HT.out,if_pos hz]);go_wp2;refine Yaf (v:=oneV R) ?_ rfl ⟨rfl,?_⟩
   . have e:Value.string (s.extract 0 z)=strV (s.data.toList.take z):=(by rw [<-HX.out,ZbG]);simp [results,Tryz.results88,go_sem,HT2.out,oneV,tokV,e,c0,c1,c2,c3]
   . exact (((hb.setCell Zs _).setCell Zs _).setCell Zs _).setCell Zs _
 . have HT2:Hid (R=none):=Zq (by rw [HT.out,if_neg hz]);go_wp2;refine Yaf (v:=oneV R) ?_ rfl ⟨rfl,?_⟩
   . simp [results,Tryz.results88,go_sem,HT2.out,oneV,tokV,strV,c0,c1,c2,c3]
   . exact (((hb.setCell Zs _).setCell Zs _).setCell Zs _).setCell Zs _
theorem Zcx (s:ByteArray) (w:World) (hs:s.size<9223372036854775807) :
 Calls Tryz.prog 113 #[.string s] w fun e w'=>e = .returned (.int .i64 (cnt s.data.toList))/\Below w.heap.size w w':=by go_in;go_wp2_with fail;refine (ZbI s _ hs).mono ?_;rintro e W1 ⟨rfl,hb1⟩;go_wp2;go_ret;exact ⟨rfl,hb1⟩
theorem Zcy (s:ByteArray) (w:World) (hs:s.size<=9223372036854775807) (hL:Lay (gh w)) :
 Calls Tryz.prog 112 #[.string s] w fun e w'=>e = .returned (.bool (val s.data.toList))/\Below w.heap.size w w':=by go_in;go_wp2_with fail;refine (ZbJ s _ hs hL).mono ?_;rintro e W1 ⟨rfl,hb1⟩;go_wp2;go_ret;exact ⟨rfl,hb1⟩
theorem Zcz (s:ByteArray) (w:World) (hs:0<s.size) (hm:s.size<=1000000) (hq:bk s.data.toList 0=34) (hL:Lay (gh w)) :
 Calls Tryz.prog 88 #[.string s,.int .i64 0] w fun e w'=>e = .returned (oneV (tok1 s.data.toList))/\Below w.heap.size w w':=by
 have hr:=rn_34.2 hq;have hcl:cls (rn s.data.toList)=0:=by rw [hr]; decide
 have q1:(((s[0]'hs).toNat:Int) == 34)=true:=by rw [ZbY hs,hq]; rfl
 have HT:Hid (tok1 s.data.toList=match unqL s.size (s.data.toList.drop 1) with|some (t,n,z)=>(if n<=100 then some (2,t,0,1+z) else none)|none=>none):=Zq (by unfold tok1; rw [if_neg (by omega),if_neg (by omega),if_pos hq]; rfl);have HU:=Zq (fun t n z h=>And.intro (ZbD s.size (s.data.toList.drop 1) t n z h) (ZbF h));have hdl:(s.data.toList.drop 1).length<=1000000:=by rw [Yav,Zcg]; omega
 clear hr hcl hq;obtain ⟨R,hR⟩:∃ R,tok1 s.data.toList=R:=⟨_,rfl⟩;rw [hR] at HT |-;clear hR;have hun:=fun w hL=>Zcr s w hs q1 hm hL;have HUN:=Zq hun;clear hun;generalize unqL s.size (s.data.toList.drop 1)=X at *;go_in;go_wp2_with fail;have hb0:=(Yab w.heap.size w).alloc Zs (.cells #[.int .i64 0,.string ⟨#[]⟩,.int .i64 0,.int .i64 0] 114 (0,0));refine (HUN.out _ (hL.below hb0)).mono ?_;rintro e W1 ⟨rfl,hb1⟩;have hsz:=hb1.size;simp only [World.size_alloc] at hsz;have hblk:W1.heap[w.heap.size]?=some (.cells #[.int .i64 0,.string ⟨#[]⟩,.int .i64 0,.int .i64 0] 114 (0,0)):=by rw [hb1.block _ (by simp)];exact Yac w _
 have hb:=hb0.trans (hb1.mono (by simp));clear hb0 hb1;cases X with
 | none =>
  obtain ⟨⟨c0,c1,c2,c3⟩,f0,f1,f2,f3⟩:=Zcu hblk;clear hblk;have HT2:Hid (R=none):=Zq (by rw [HT.out]);simp only [unqV,strV];go_wp2;refine Yaf (v:=oneV R) ?_ rfl ⟨rfl,?_⟩
  . simp [results,Tryz.results88,go_sem,HT2.out,oneV,tokV,strV,c0,c1,c2,c3]
  . exact (((hb.setCell Zs _).setCell Zs _).setCell Zs _).setCell Zs _
 | some x =>
  obtain ⟨t,n,y⟩:=x;have hU:=HU.out t n y rfl;have hcn:=Zq hU.1.1;have htl:=hU.1.2.2;have hnl:=hU.2;clear hU;simp only [unqV,strV];go_wp2_with fail;have hts:(⟨t.toArray⟩:ByteArray).size=t.length:=(by simp [ByteArray.size]);refine (Zcx ⟨t.toArray⟩ _ (by omega)).mono ?_;rintro e W2 ⟨rfl,hb2⟩;have e1:(⟨t.toArray⟩:ByteArray).data.toList=t:=(by simp);rw [e1,hcn.out];have hblk2:W2.heap[w.heap.size]?=some (.cells #[.int .i64 0,.string ⟨#[]⟩,.int .i64 0,.int .i64 0] 114 (0,0)):=(by rw [hb2.block _ (by omega)]; exact hblk);have hb3:=hb.trans (hb2.mono (by omega));obtain ⟨⟨c0,c1,c2,c3⟩,f0,f1,f2,f3⟩:=Zcu hblk2;clear hblk hblk2 hts e1 hb hb2;by_cases hn:n<=100
  . have HT2:Hid (R=some (2,t,0,1+y)):=Zq (by rw [HT.out]; simp only [if_pos hn]);go_wp2;refine Yaf (v:=oneV R) ?_ rfl ⟨rfl,?_⟩
    . simp [results,Tryz.results88,go_sem,HT2.out,oneV,tokV,strV,c0,c1,c2,c3]
    . exact (((hb3.setCell Zs _).setCell Zs _).setCell Zs _).setCell Zs _
  . have HT2:Hid (R=none):=Zq (by rw [HT.out]; simp only [if_neg hn]);go_wp2;refine Yaf (v:=oneV R) ?_ rfl ⟨rfl,?_⟩
    . simp [results,Tryz.results88,go_sem,HT2.out,oneV,tokV,strV,c0,c1,c2,c3]
    . exact (((hb3.setCell Zs _).setCell Zs _).setCell Zs _).setCell Zs _
theorem ZcA {l:Bs} {a:UInt8} (h0:bk l 0=a.toNat) (h1:bk l 1=61):List.isPrefixOf [a,61] l=true/\l.take 2=[a,61]:=by
 match l with
 | []=>cases h1
 | [c]=>cases h1
 | c::d::t =>
  have e1:c=a:=UInt8.toNat_inj.1 h0
  have e2:d=61:=UInt8.toNat_inj.1 h1
  subst e1 e2
  simp [List.isPrefixOf]
theorem ZcB {l:Bs} {a:UInt8} (h:¬ (bk l 0=a.toNat/\bk l 1=61)):List.isPrefixOf [a,61] l=false:=by
 match l with
 | []=>rfl
 | [c]=>simp [List.isPrefixOf]
 | c::d::t =>
  cases e:List.isPrefixOf [a,61] (c::d::t) with
  | false=>rfl
  | true =>
   exfalso
   simp only [List.isPrefixOf,Bool.and_eq_true,beq_iff_eq,Bool.and_true] at e
   obtain ⟨rfl,rfl⟩:=e
   exact h ⟨rfl,rfl⟩
theorem ZcC (n:Nat) (h:n<256):decide (Lib.indexByte (ByteArray.mk #[43,45,42,47,37,40,41,44,61,60,62,38,124,33]).data.toList (((n:Nat):Int).toNat.toUInt8)<0)=!isSign1 n:=by
 have H:∀ m:Fin 256,decide (Lib.indexByte [43,45,42,47,37,40,41,44,61,60,62,38,124,33] ((((m.val:Nat):Int).toNat.toUInt8))<0)=!isSign1 m.val:=by decide +kernel
 exact H ⟨n,h⟩
theorem ZcD (s:ByteArray) (w:World) (hs:0<s.size) (hq:bk s.data.toList 0≠34) (hcl:cls (rn s.data.toList)=0) :
 Calls Tryz.prog 88 #[.string s,.int .i64 0] w fun e w'=>e = .returned (oneV (tok1 s.data.toList))/\Below w.heap.size w w':=by
 have q1:(((s[0]'hs).toNat:Int) == 34)=false:=by rw [ZbY hs]; exact Zr (by omega)
 have HT:Hid (tok1 s.data.toList=if (bk s.data.toList 0=60\/bk s.data.toList 0=62\/bk s.data.toList 0=33)/\bk s.data.toList 1=61 then some (4,s.data.toList.take 2,0,2) else if isSign1 (bk s.data.toList 0) then some (4,s.data.toList.take 1,0,1) else none):=Zq (by unfold tok1; rw [if_neg (by omega),if_neg (by omega),if_neg hq]);have HB:=Zq (ZbY hs);have HX:=Zq (Zcs s 1);have HI:=Zq (ZcC _ (ZaE s.data.toList 0));clear hcl hq;obtain ⟨R,hR⟩:∃ R,tok1 s.data.toList=R:=⟨_,rfl⟩;rw [hR] at HT |-;clear hR;have ix0:∀ W,(Instr.index 116 (.agg #[.string ⟨#[60,61]⟩,.string ⟨#[62,61]⟩,.string ⟨#[33,61]⟩]) (.int .i64 0)).run Tryz.prog W = .ok (.string ⟨#[60,61]⟩) W:=fun _=>by kernel_rfl
 have ix1:∀ W,(Instr.index 116 (.agg #[.string ⟨#[60,61]⟩,.string ⟨#[62,61]⟩,.string ⟨#[33,61]⟩]) (.int .i64 1)).run Tryz.prog W = .ok (.string ⟨#[62,61]⟩) W:=fun _=>by kernel_rfl
 have ix2:∀ W,(Instr.index 116 (.agg #[.string ⟨#[60,61]⟩,.string ⟨#[62,61]⟩,.string ⟨#[33,61]⟩]) (.int .i64 2)).run Tryz.prog W = .ok (.string ⟨#[33,61]⟩) W:=fun _=>by kernel_rfl
 have hb:=(Yab w.heap.size w).alloc Zs (.cells #[.int .i64 0,.string ⟨#[]⟩,.int .i64 0,.int .i64 0] 114 (0,0));go_in;go_wp2_with fail;refine wp_loop_rounds 4 ?_;rw [Yba];go_wp2_with fail;refine (ZbK s ⟨#[60,61]⟩ _).mono ?_;rintro e W1 ⟨rfl,rfl⟩;by_cases p0:bk s.data.toList 0=(60:UInt8).toNat/\bk s.data.toList 1=61
 . have P0:=ZcA p0.1 p0.2;have HT2:Hid (R=some (4,[60,61],0,2)):=Zq (by rw [HT.out,if_pos ⟨.inl p0.1,p0.2⟩,P0.2]);rw [show ((⟨#[60,61]⟩:ByteArray).data.toList).isPrefixOf s.data.toList=true from P0.1];clear p0 P0;go_wp2;refine Yaf (v:=oneV R) ?_ rfl ⟨rfl,?_⟩
   . simp [results,Tryz.results88,go_sem,HT2.out,oneV,tokV,strV]
   . exact (Yab w.heap.size w).alloc Zs _
 rw [show ((⟨#[60,61]⟩:ByteArray).data.toList).isPrefixOf s.data.toList=false from ZcB p0];go_wp2_with fail;rw [Yba];go_wp2_with fail;refine (ZbK s ⟨#[62,61]⟩ _).mono ?_;rintro e W1 ⟨rfl,rfl⟩;by_cases p1:bk s.data.toList 0=(62:UInt8).toNat/\bk s.data.toList 1=61
 . have P0:=ZcA p1.1 p1.2;have HT2:Hid (R=some (4,[62,61],0,2)):=Zq (by rw [HT.out,if_pos ⟨.inr (.inl p1.1),p1.2⟩,P0.2]);rw [show ((⟨#[62,61]⟩:ByteArray).data.toList).isPrefixOf s.data.toList=true from P0.1];clear p0 p1 P0;go_wp2;refine Yaf (v:=oneV R) ?_ rfl ⟨rfl,?_⟩
   . simp [results,Tryz.results88,go_sem,HT2.out,oneV,tokV,strV]
   . exact (Yab w.heap.size w).alloc Zs _
 rw [show ((⟨#[62,61]⟩:ByteArray).data.toList).isPrefixOf s.data.toList=false from ZcB p1];go_wp2_with fail;rw [Yba];go_wp2_with fail;refine (ZbK s ⟨#[33,61]⟩ _).mono ?_;rintro e W1 ⟨rfl,rfl⟩;by_cases p2:bk s.data.toList 0=(33:UInt8).toNat/\bk s.data.toList 1=61
 . have P0:=ZcA p2.1 p2.2;have HT2:Hid (R=some (4,[33,61],0,2)):=Zq (by rw [HT.out,if_pos ⟨.inr (.inr p2.1),p2.2⟩,P0.2]);rw [show ((⟨#[33,61]⟩:ByteArray).data.toList).isPrefixOf s.data.toList=true from P0.1];clear p0 p1 p2 P0;go_wp2;refine Yaf (v:=oneV R) ?_ rfl ⟨rfl,?_⟩
   . simp [results,Tryz.results88,go_sem,HT2.out,oneV,tokV,strV]
   . exact (Yab w.heap.size w).alloc Zs _
 rw [show ((⟨#[33,61]⟩:ByteArray).data.toList).isPrefixOf s.data.toList=false from ZcB p2];have HT3:Hid (R=if isSign1 (bk s.data.toList 0) then some (4,s.data.toList.take 1,0,1) else none):=Zq (by
  rw [HT.out,if_neg];rintro ⟨h|h|h,h1⟩
  . exact p0 ⟨h,h1⟩
  . exact p1 ⟨h,h1⟩
  . exact p2 ⟨h,h1⟩)
 clear p0 p1 p2;go_wp2_with fail;rw [Yba];go_wp2_with fail;refine (ZbL _ _ _).mono ?_;rintro e W1 ⟨rfl,rfl⟩;rw [HB.out];obtain ⟨I,hI⟩:∃ I,Lib.indexByte (ByteArray.mk #[43,45,42,47,37,40,41,44,61,60,62,38,124,33]).data.toList (((bk s.data.toList 0:Nat):Int).toNat.toUInt8)=I:=⟨_,rfl⟩;rw [hI] at HI |-;clear hI;cases hsg:isSign1 (bk s.data.toList 0) with
 | true =>
  have hlt:¬ I<0:=(by have:=HI.out; rw [hsg] at this; simpa using this);have HT4:Hid (R=some (4,s.data.toList.take 1,0,1)):=Zq (by rw [HT3.out,hsg]; rfl);clear hsg;go_wp2;refine Yaf (v:=oneV R) ?_ rfl ⟨rfl,?_⟩
  . have e:Value.string (s.extract 0 1)=strV (s.data.toList.take 1):=(by rw [<-HX.out,ZbG]);simp [results,Tryz.results88,go_sem,HT4.out,oneV,tokV,e]
  . exact (Yab w.heap.size w).alloc Zs _
 | false =>
  have hlt:I<0:=(by have:=HI.out; rw [hsg] at this; simpa using this);have HT4:Hid (R=none):=Zq (by rw [HT3.out,hsg]; rfl);clear hsg;go_wp2;refine Yaf (v:=oneV R) ?_ rfl ⟨rfl,?_⟩
  . simp [results,Tryz.results88,go_sem,HT4.out,oneV,tokV,strV]
  . exact (Yab w.heap.size w).alloc Zs _
theorem ZcE (s:ByteArray) (w:World) (hs:0<s.size) (hm:s.size<=1000000) (h3:cls (rn s.data.toList)≠3) (hL:Lay (gh w)) :
 Calls Tryz.prog 88 #[.string s,.int .i64 (cls (rn s.data.toList))] w fun e w'=>e = .returned (oneV (tok1 s.data.toList))/\Below w.heap.size w w':=by
 rcases Zap (rn s.data.toList) with h|h|h|h
 . rw [h];by_cases hq:bk s.data.toList 0=34
   . exact Zcz s w hs hm hq hL
   . exact ZcD s w hs hq h
 . rw [h]; exact Zcw s w h
 . rw [h]; exact Zcv s w hs hm h hL
 . exact absurd h h3
def tokCells (t:Tok):List Value:=[.int .i64 t.k,strV t.s,.int .i64 t.n,.int .i64 t.p]
theorem ZcF (t:Tok):(tokCells t).length=4:=rfl
def TokV (h:GH) (v:Value) (ts:List Tok):Prop:=SlV h v ts.length 4 (fun j=>tokCells (ts.getD j noTok))
def join (ts:List Tok) (x:Except Nat (List Tok)):Except Nat (List Tok):=match x with | .error p => .error p | .ok us => .ok (ts++us)
theorem ZcG (a b:List Tok) (x:Except Nat (List Tok)):join a (join b x)=join (a++b) x:=by cases x<;>simp [join]
theorem ZcH {f p:Nat} {l:Bs} (h:l=[]):lexL (f+1) p l = .ok [⟨0,[],0,p⟩]:=by unfold lexL; rw [if_pos h]
theorem ZcI {f p:Nat} {l:Bs} (hn:l≠[]) (h:cls (rn l)=3):lexL (f+1) p l=lexL f (p+wd l) (l.drop (wd l)):=by
 conv=>lhs; unfold lexL
 rw [if_neg hn,if_pos h]
theorem ZcJ {f p:Nat} {l:Bs} (hn:l≠[]) (h:cls (rn l)≠3) (ht:tok1 l=none):lexL (f+1) p l = .error p:=by unfold lexL;rw [if_neg hn,if_neg h,ht]
theorem ZcK {f p:Nat} {l:Bs} (hn:l≠[]) (h:cls (rn l)≠3) {k:Int} {s:Bs} {n:Int} {z:Nat} (ht:tok1 l=some (k,s,n,z)):lexL (f+1) p l=join [⟨k,s,n,p⟩] (lexL f (p+z) (l.drop z)):=by
 conv=>lhs; unfold lexL
 rw [if_neg hn,if_neg h,ht];simp only;unfold join;split<;>rename_i e<;>rw [e]<;>rfl
theorem ZcL:(Tryz.prog.info? 114).map (fun i=>(i.zero,i.size,i.bytes))=some (some (.agg #[.int .i64 0,.string ⟨#[]⟩,.int .i64 0,.int .i64 0]),4,40):=by kernel_rfl
def lexPost (s:ByteArray) (w:World) (e:Ending) (w':World):Prop :=
 Below w.heap.size w w'/\(match lexAll s.data.toList with
  | .error p=>e = .returned (.tuple #[.slice none 0 0,.int .i64 p,.int .i64 5])
  | .ok ts=>∃ v,e = .returned (.tuple #[v,.int .i64 0,.int .i64 0])/\TokV (gh w') v ts)
theorem ZcM (s:ByteArray) (w:World) (hs:400<s.size) (_hm:s.size<=9223372036854775807) :
 Calls Tryz.prog 65 #[.string s] w fun e w'=>e = .returned (.tuple #[.slice none 0 0,.int .i64 400,.int .i64 7])/\w=w':=by go_in;go_wp2;go_step3;go_wp2;rw [Yae];go_ret3;exact ⟨rfl,rfl⟩
theorem ZcN (s:ByteArray) (w:World) (hs:s.size<=400) (hL:Lay (gh w)) :
 Calls Tryz.prog 65 #[.string s] w (lexPost s w):=by
 obtain ⟨i0,hi,hz0,hz1,hz2⟩:=info_parts ZcL;go_in;go_wp2;go_step3;go_wp2;go_step3;go_wp2;have ev0:Evo T0 w (T0.set w.heap.size 2) (w.alloc (.stringIter s 0)) (·≠0):=(Ybg T0 w _).alloc 2 _;have hn0:w.alloc (.stringIter s 0)=w.iter s 0:=rfl;obtain ⟨R,hR⟩:∃ R,lexAll s.data.toList=R:=⟨_,rfl⟩;have HRR:=Zq hR;clear hR;go_loopg [5,6] s.size (fun g l en wr=>∃ (tau:Tag) (pos c f:Nat) (e:Nat) (ts:List Tok),en = .int .i64 e/\Row tau 1 wr 114 4 l ts.length (ts.flatMap tokCells)/\Evo T0 w tau wr (·≠0) /\
  wr.heap[w.heap.size]?=some (.stringIter s pos)/\tau w.heap.size=2/\(pos<e/\c=e\/e<=pos/\c=pos)/\Hid (Reach (s.data.toList.drop pos) (c - pos)) /\
  Hid (join ts (lexL (f+1) c (s.data.toList.drop c))=R)/\s.size<=c+f/\s.size<=pos+g/\ts.length<=c/\c<=s.size)
 case atStart =>refine ⟨_,0,0,s.size,0,[],rfl,Row.nil _ _ _ _ _,ev0,World.iter_heap w s 0,Tag.set_same _ _ _,.inr ⟨Nat.le_refl _,rfl⟩,Zq (.zero _),Zq ?_,by omega,by omega,by simp,by omega⟩;rw [<-HRR.out];unfold lexAll;rw [List.drop_zero,Zcg];generalize lexL (s.size+1) 0 s.data.toList=X;cases X<;>simp [join]
 case round =>
  obtain ⟨tau,pos,c,f,e,ts,rfl,hrow,hev,hit,htg,hc,HQ,HJ,hf,hg,htl,hcs⟩:=hrel;have hsz:w.heap.size<wr.heap.size:=(Yaa.1 hit).1;by_cases hp:pos<s.size
  . have hnx:∀ ty,(Instr.next (.pointer (some ⟨w.heap.size,0,none⟩)) true ty).run Tryz.prog wr = .ok (.tuple #[.bool true,.int .i64 pos,.int .i32 (dRune s pos)]) (wr.iterAt w.heap.size s (pos+dLen s pos)):=fun ty=>Lib.run_next_any_at wr w.heap.size s pos ty hit hp;have hwd:=Zau hp;have hd1:=Zav s pos;have hdl:=ZaM s pos;have hit2:=Lib.iterAt_heap wr w.heap.size s pos (pos+dLen s pos) hit;have hev2:=hev.iterAt w.heap.size s (pos+dLen s pos) (by rw [htg]; omega);obtain ⟨la,lc,rfl⟩:=hrow.form;have hrow2:=hrow.keep (w':=wr.iterAt w.heap.size s (pos+dLen s pos)) (K:=fun k=>k=2) ((Ybg tau wr _).iterAt w.heap.size s (pos+dLen s pos) htg) (by omega);have hsz2:w.heap.size<(wr.iterAt w.heap.size s (pos+dLen s pos)).heap.size:=(by rw [Lib.iterAt_size]; omega);clear hrow hev hit hsz;obtain ⟨g,rfl⟩:∃ g,gk=g+1:=⟨gk - 1,by omega⟩;have hll:(s.data.toList.drop pos).length=s.size - pos:=(by rw [Yav]; rfl);have hne:s.data.toList.drop pos≠[]:=fun h=>by rw [h] at hll; simp at hll; omega
    have hwl:=ZaS hne;rw [hll,<-hdl] at hwl;have Hne:=Zq hne;have HDR:=Zq (ZaL s pos);have HDL:=Zq hdl;clear hll hne hdl;generalize hW:wr.iterAt w.heap.size s (pos+dLen s pos)=W at hnx hit2 hev2 hrow2 hsz2;clear hW;generalize dLen s pos=z at *;go_wp2_with fail;refine (ZaC (dRune s pos) _ ⟨by omega,by omega⟩).mono ?_;rintro e1 W1 ⟨rfl,hb1⟩;rw [HDR.out];have hrow3:=hrow2.call hb1;have hev3:=hev2.call hb1;have hit3:W1.heap[w.heap.size]?=some (.stringIter s (pos+z)):=(by rw [hb1.block _ hsz2]; exact hit2);have hsz3:w.heap.size<W1.heap.size:=Nat.lt_of_lt_of_le hsz2 hb1.size;clear hb1 hnx hit2 hev2 hrow2 hsz2;rcases hc with ⟨hc1,hc2⟩|⟨hc1,hc2⟩
    . have HC2:=Zq hc2;have HT:=Zq (HQ.out.tail (by omega));clear hc2;go_wp2;go_roundg g;case rel =>
       have h1:=HT.out;rw [<-HDL.out,List.drop_drop] at h1;have hcz:c=e:=HC2.out;refine ⟨tau,pos+z,c,f,e,ts,rfl,hrow3,hev3,hit3,htg,?_,Zq ?_,HJ,hf,by omega,by omega,hcs⟩
       . omega
       . have:=h1.2;rw [show c - (pos+z)=c - pos - z by omega];exact this
      case measure=>omega
    . subst hc2;by_cases h3:cls (rn (s.data.toList.drop c))=3
      . have H3:=Zq h3;have B3:(cls (rn (s.data.toList.drop c)) == 3)=true:=(by simp [h3]);clear h3;go_wp2;go_roundg g;(case rel =>obtain ⟨f1,rfl⟩:∃ f1,f=f1+1:=⟨f - 1,by omega⟩;have hj:=HJ.out;rw [ZcI Hne.out H3.out,<-HDL.out,List.drop_drop] at hj;exact ⟨tau,c+z,c+z,f1,e,ts,rfl,hrow3,hev3,hit3,htg,.inr ⟨by omega,rfl⟩,Zq (by rw [Nat.sub_self]; exact .zero _),Zq hj,by omega,by omega,by omega,by omega⟩);case measure=>omega
      . have B3:(cls (rn (s.data.toList.drop c)) == 3)=false:=Zr h3;have hxs:0<(s.extract c s.size).size:=(by rw [ByteArray.size_extract]; omega);have hxm:(s.extract c s.size).size<=1000000:=(by rw [ByteArray.size_extract]; omega);have hL1:Lay (gh W1):=hL.below (hev3.toBelow (by simp));have hone:=ZcE (s.extract c s.size) W1 hxs hxm (by rw [Zcf]; exact h3) hL1;rw [Zcf] at hone;have HO:=Zq hone;have H3:=Zq h3;clear h3 hone hxs hxm hL1;go_wp2_with fail;refine HO.out.mono ?_;rintro e1 W2 ⟨rfl,hb2⟩;have hrow4:=hrow3.call hb2;have hev4:=hev3.call hb2;have hit4:W2.heap[w.heap.size]?=some (.stringIter s (c+z)):=(by rw [hb2.block _ hsz3]; exact hit3);have hsz4:w.heap.size<W2.heap.size:=Nat.lt_of_lt_of_le hsz3 hb2.size;clear HO hb2 hrow3 hev3 hit3 hsz3;cases htk:tok1 (s.data.toList.drop c) with
        | none =>have HE:Hid (R = .error c):=Zq (by rw [<-HJ.out,ZcJ Hne.out H3.out htk]; rfl);clear htk;simp only [oneV,tokV,strV];go_wp2;rw [Yae];go_ret3;refine ⟨(hev4.alloc 3 _).toBelow (by simp),?_⟩;rw [HRR.out,HE.out];rfl
        | some q =>
         obtain ⟨k,str,n,y⟩:=q;have hrch:=Zba Hne.out htk;rw [<-HDL.out] at hrch;have hyl:=hrch.1.le;rw [Yav,Zcg] at hyl;have HRC:=Zq hrch;have hyz:=hrch.2;have Y0:((y:Int) == 0)=false:=Zr (by omega);have HTK:=Zq htk;clear htk hrch;simp only [oneV,tokV,strV];have hrow5:=hrow4.keep (K:=fun _=>False) ((Ybg tau W2 _).alloc 3 (.cells #[.int .i64 k,.string ⟨str.toArray⟩,.int .i64 n,.int .i64 c] 114 (0,0))) (fun h=>h);have hev5:=hev4.alloc 3 (.cells #[.int .i64 k,.string ⟨str.toArray⟩,.int .i64 n,.int .i64 c] 114 (0,0));have hit5:(W2.alloc (.cells #[.int .i64 k,.string ⟨str.toArray⟩,.int .i64 n,.int .i64 c] 114 (0,0))).heap[w.heap.size]?=some (.stringIter s (c+z)):=(by rw [Yah W2 _ _ hsz4]; exact hit4);have htg5:(tau.set W2.heap.size 3) w.heap.size=2:=(by rw [Tag.set_other _ _ _ (by omega)]; exact htg);clear hrow4 hev4 hit4;go_wp2_with (at_builtin; refine Zac rfl _ _ 110 rfl 114 i0 _ 4 40 Tryz.underlying110 hi hz0 hz1 hz2 rfl (by decide) rfl hrow5 #[.int .i64 k,.string ⟨str.toArray⟩,.int .i64 n,.int .i64 c] 114 (0,0) _ rfl ?c0 rfl ?c1 ?c2 ?c3 ?_);(case c0=>simp);(case c1=>first|exact ⟨rfl,rfl,rfl,rfl⟩|(intro u hu; simp at hu; rcases hu with rfl|rfl|rfl|rfl<;>rfl));(case c2=>unfold maxLen; omega);(case c3=>omega);intro v' t' w' hr3 he;have hev6:=hev5.trans (he.mono (K':=(·≠0)) (by intro x hx; omega));have hlt5:w.heap.size<(W2.alloc (.cells #[.int .i64 k,.string ⟨str.toArray⟩,.int .i64 n,.int .i64 c] 114 (0,0))).heap.size:=(by simp; omega);have hit6:w'.heap[w.heap.size]?=some (.stringIter s (c+z)):=(by rw [he.block _ hlt5 (by rw [htg5]; omega)]; exact hit5);have htg6:t' w.heap.size=2:=(by rw [he.tag _ hlt5]; exact htg5);have HR3:=Zq hr3;clear he hit5 htg5 hev5 hr3 hrow5;go_wp2;go_roundg g;case rel =>
          obtain ⟨f1,rfl⟩:∃ f1,f=f1+1:=⟨f - 1,by omega⟩;have hj:=HJ.out;rw [ZcK Hne.out H3.out HTK.out,ZcG,List.drop_drop] at hj;have hr:=HR3.out;have hfl:(ts.flatMap tokCells)++tokCells ⟨k,str,n,c⟩=(ts++[(⟨k,str,n,c⟩:Tok)]).flatMap tokCells:=(by rw [List.flatMap_append]; simp);refine ⟨t',c+z,c+y,f1,c+y,ts++[⟨k,str,n,c⟩],by go_num,?_,hev6,hit6,htg6,by omega,Zq ?_,Zq hj,by omega,by omega,by rw [Yak]; simp; omega,by omega⟩
          . rw [<-hfl,Yak]; exact hr
          . have h1:=HRC.out.1.tail (by omega);rw [<-HDL.out,List.drop_drop] at h1;rw [show c+y - (c+z)=y - z by omega];exact h1.2
         case measure=>omega
  . have hnx:∀ ty,(Instr.next (.pointer (some ⟨w.heap.size,0,none⟩)) true ty).run Tryz.prog wr=_:=fun ty=>Lib.run_next_end_at wr w.heap.size s pos ty hit hp;have hcz:c=s.size:=(by have h1:=HQ.out.le;rw [Yav,Zcg] at h1;omega);obtain ⟨la,lc,rfl⟩:=hrow.form;have HE:Hid (R = .ok (ts++[⟨0,[],0,s.size⟩])):=Zq (by have hnil:s.data.toList.drop c=[]:=Yal (by rw [Yav,Zcg]; omega);rw [<-HJ.out,ZcH hnil,hcz]; rfl);clear hc;have hct:ts.length<=400:=(by omega);clear hcz;go_wp2_with (at_builtin; refine Zac rfl _ _ 110 rfl 114 i0 _ 4 40 Tryz.underlying110 hi hz0 hz1 hz2 rfl (by decide) rfl hrow #[.int .i64 0,.string ⟨#[]⟩,.int .i64 0,.int .i64 s.size] 114 (0,0) _ rfl ?c0 rfl ?c1 ?c2 ?c3 ?_);(case c0=>simp);(case c1=>first|exact ⟨rfl,rfl,rfl,rfl⟩|(intro u hu; simp at hu; rcases hu with rfl|rfl|rfl|rfl<;>rfl));(case c2=>unfold maxLen; omega);(case c3=>omega);intro v' t' w' hr3 he;have hev6:=hev.trans (he.mono (K':=(·≠0)) (by intro x hx; omega));obtain ⟨va,vc,hv⟩:=hr3.form;have hfl:(ts.flatMap tokCells)++tokCells ⟨0,[],0,s.size⟩=(ts++[(⟨0,[],0,s.size⟩:Tok)]).flatMap tokCells:=(by rw [List.flatMap_append]; simp);have hr4:Row t' 1 w' 114 4 v' (ts++[(⟨0,[],0,s.size⟩:Tok)]).length ((ts++[(⟨0,[],0,s.size⟩:Tok)]).flatMap tokCells):=(by rw [<-hfl,Yak]; exact hr3);have HV:=Zq (SlV.ofRow tokCells _ noTok (by decide) ZcF hr4);clear hr3 hr4 hfl he;go_wp2;rw [Yae];go_ret3;refine ⟨hev6.toBelow (by simp),?_⟩;rw [HRR.out,HE.out];exact ⟨_,rfl,HV.out⟩
end Go.Proofs.YtikannmgllejfaaGreatDoor
