import Derived.Laws.Strings
import Derived.Test.YtlapbjdhekcipaaGreatHC
set_option linter.unusedVariables false
set_option linter.unusedSimpArgs false
namespace Go.Ae
open Go
theorem Wu (x:Int):IntKind.i64.wrap x=if x % 18446744073709551616 ≥ 9223372036854775808 then x % 18446744073709551616 - 18446744073709551616 else x % 18446744073709551616:=by
 have:IntKind.i64.wrap x=if (true && decide (x % (2 ^ 64:Int) ≥ (2 ^ 63:Int)))=true then x % (2 ^ 64:Int) - (2 ^ 64:Int) else x % (2 ^ 64:Int):=rfl
 rw [this];simp
theorem ax {x:Int} (h:-9223372036854775808≤x) (J:x < 9223372036854775808):IntKind.i64.wrap x=x:=by
 rw [Wu]
 split <;> omega
theorem Cm (x:Int):IntKind.u64.wrap x=x % 18446744073709551616:=by
 unfold IntKind.wrap;simp [IntKind.bits,IntKind.signed]
theorem bK {x:Int} (h:0≤x) (J:x < 18446744073709551616):IntKind.u64.wrap x=x:=by rw [Cm]; omega
theorem w8 (x:Int):IntKind.u32.wrap x=x % 4294967296:=by
 unfold IntKind.wrap;simp [IntKind.bits,IntKind.signed]
theorem dk {x:Int} (h:0≤x) (J:x < 4294967296):IntKind.u32.wrap x=x:=by rw [w8]; omega
theorem lz (x:Int):IntKind.u8.wrap x=x % 256:=by
 unfold IntKind.wrap;simp [IntKind.bits,IntKind.signed]
theorem dJ {x:Int} (h:0≤x) (J:x < 256):IntKind.u8.wrap x=x:=by rw [lz]; omega
abbrev B:Nat:=4294967296
theorem eF (n:Nat):0 < B ^ n:=Nat.pow_pos (by decide)
def an (N i:Nat):Nat:=N / B ^ i % B
theorem cH (N i:Nat):an N i < B:=Nat.mod_lt _ (by decide)
def cE (Y j d:Nat):Nat:=Y % B ^ j+B ^ j*(d+B*(Y / B ^ (j+1)))
theorem F1 (Y j:Nat):Y=Y % B ^ j+B ^ j*(an Y j+B*(Y / B ^ (j+1))):=by
 have h1:=Nat.mod_add_div Y (B ^ j);have J:=Nat.mod_add_div (Y / B ^ j) B;rw [Nat.div_div_eq_div_mul,← Nat.pow_succ] at J;unfold an;rw [J,h1]
theorem p7 (Y j d:Nat):cE Y j d+an Y j*B ^ j=Y+d*B ^ j:=by
 have h:=F1 Y j;unfold cE;rw [Nat.mul_add] at h ⊢;have e1:B ^ j*an Y j=an Y j*B ^ j:=Nat.mul_comm _ _;have e2:B ^ j*d=d*B ^ j:=Nat.mul_comm _ _;omega
theorem oR {a k Q:Nat} (h:a < k):(a+k*Q) / k=Q:=by
 have hk:0 < k:=by omega
 rw [Nat.add_mul_div_left _ _ hk,Nat.div_eq_of_lt h,Nat.zero_add]
theorem Gq {Y j d:Nat} (hd:d < B) (r:Nat):an (cE Y j d) r=if r=j then d else an Y r:=by
 have ha:Y % B ^ j < B ^ j:=Nat.mod_lt _ (eF j);rcases Nat.lt_trichotomy r j with h | h | h
 ·rw [if_neg (by omega)]
  have key:∀ K,an (Y % B ^ j+B ^ j*K) r=an (Y % B ^ j) r:=by
   intro K;unfold an;have e:B ^ j*K=B ^ r*(B*(B ^ (j - r - 1)*K)):=by
    rw [← Nat.mul_assoc,← Nat.mul_assoc,← Nat.pow_succ,← Nat.pow_add,show r+1+(j - r - 1)=j by omega]
   rw [e,Nat.add_mul_div_left _ _ (eF r),Nat.add_mul_mod_self_left]
  have h1:=key (d+B*(Y / B ^ (j+1)));have J:=key (an Y j+B*(Y / B ^ (j+1)));rw [← F1 Y j] at J;unfold cE;rw [h1,J]
 ·subst h;rw [if_pos rfl];unfold cE an;rw [oR ha,Nat.add_mul_mod_self_left,Nat.mod_eq_of_lt hd]
 ·rw [if_neg (by omega)]
  have key:∀ d',d' < B→an (Y % B ^ j+B ^ j*(d'+B*(Y / B ^ (j+1)))) r=Y / B ^ (j+1) / B ^ (r - j - 1) % B:=by
   intro d' cV;unfold an;have e:B ^ r=B ^ j*(B*B ^ (r - j - 1)):=by
    rw [← Nat.mul_assoc,← Nat.pow_succ,← Nat.pow_add,show j+1+(r - j - 1)=r by omega]
   rw [e,← Nat.div_div_eq_div_mul,oR ha,← Nat.div_div_eq_div_mul,oR cV]
  have h1:=key d hd;have J:=key (an Y j) (cH Y j);rw [← F1 Y j] at J;unfold cE;rw [h1,J]
def bn (N:Nat):Nat→List Value:=fun r=>[.int .u32 (an N r)]
theorem fF {Y j d:Nat} (hd:d < B):(fun r=>if r=j then [Value.int .u32 d] else bn Y r)=bn (cE Y j d):=by
 funext r
 unfold bn;rw [Gq hd]
 split <;> rfl
theorem F2 (r:Nat):an 0 r=0:=by simp [an]
theorem ue:(fun _=>[Value.int .u32 0])=bn 0:=by
 funext r
 simp [bn,F2]
theorem uz {N n:Nat} (h:N < B ^ n) {r:Nat} (hr:n≤r):an N r=0:=by
 unfold an;have:B ^ n≤B ^ r:=Nat.pow_le_pow_right (by decide) hr
 rw [Nat.div_eq_of_lt (by omega)]; rfl
theorem mod_succ (N i:Nat):N % B ^ (i+1)=N % B ^ i+an N i*B ^ i:=by
 unfold an;rw [Nat.pow_succ,Nat.mod_mul];rw [Nat.mul_comm (B ^ i)]
theorem qi (N i:Nat):N / B ^ i=an N i+B*(N / B ^ (i+1)):=by
 have J:=Nat.mod_add_div (N / B ^ i) B;rw [Nat.div_div_eq_div_mul,← Nat.pow_succ] at J;exact J.symm
def nl (N:Nat):Nat:=if h:N=0 then 0 else nl (N / B)+1
decreasing_by exact Nat.div_lt_self (by omega) (by decide)
theorem sG:nl 0=0:=by rw [nl]; rfl
theorem GX {N:Nat} (h:N≠0):nl N=nl (N / B)+1:=by rw [nl]; simp [h]
theorem bV (N:Nat):N < B ^ nl N:=by
 induction N using Nat.strongRecOn with
 | _ N ih =>
  by_cases h:N=0
  ·subst h; rw [sG]; decide
  ·have:=ih (N / B) (Nat.div_lt_self (by omega) (by decide))
   rw [GX h,Nat.pow_succ];exact (Nat.div_lt_iff_lt_mul (by decide)).1 this
theorem jO {N n:Nat} (h:N < B ^ n):nl N≤n:=by
 induction n generalizing N with
 | zero =>
  have:N=0:=by simpa using h
  subst this; rw [sG]; exact Nat.le_refl _
 | succ n ih =>
  by_cases h0:N=0
  ·subst h0; rw [sG]; omega
  ·have:N / B < B ^ n:=(Nat.div_lt_iff_lt_mul (by decide)).2 (by rw [← Nat.pow_succ]; exact h)
   rw [GX h0];have:=ih this;omega
theorem zz {N:Nat} (h:N≠0):0 < nl N:=by rw [GX h]; omega
theorem LP {N:Nat} (h:nl N=0):N=0:=by
 by_cases h0:N=0
 ·exact h0
 ·have:=zz h0; omega
theorem SU {N:Nat} (h:N≠0):B ^ (nl N - 1)≤N:=by
 rcases Nat.lt_or_ge N (B ^ (nl N - 1)) with h1 | h1
 ·have:=jO h1;have:=zz h;omega
 ·exact h1
theorem PZ {N n:Nat} (h:N < B ^ n) (J:n=0∨an N (n - 1)≠0):nl N=n:=by
 rcases J with rfl | J
 ·have:=jO h; omega
 ·have h3:=jO h;rcases Nat.lt_or_ge (nl N) n with h4 | h4
  ·exact absurd (uz (bV N) (show nl N≤n - 1 by omega)) J
  ·omega
theorem lB {M N:Nat} (h:M≤N):nl M≤nl N:=jO (Nat.lt_of_le_of_lt h (bV N))
theorem Lf {M N:Nat} (h:nl M < nl N):M < N:=by
 rcases Nat.lt_or_ge M N with h1 | h1
 ·exact h1
 ·have:=lB h1; omega
theorem Wv {N:Nat} (h:N≠0):an N (nl N - 1)≠0:=by
 intro h0;have h1:=bV N;have J:=zz h;have e:nl N=nl N - 1+1:=by omega
 have h3:=mod_succ N (nl N - 1);rw [← e,h0,Nat.mod_eq_of_lt h1] at h3;have h4:=Nat.mod_lt N (eF (nl N - 1));have:=jO (show N < B ^ (nl N - 1) by omega)
 omega
open Go
abbrev C:Nat:=256
theorem gZ (n:Nat):0 < C ^ n:=Nat.pow_pos (by decide)
def dt (l:List UInt8):Nat:=l.foldl (fun a b=>a*C+b.toNat) 0
theorem MH (l:List UInt8):∀ a,l.foldl (fun a b=>a*C+b.toNat) a=a*C ^ l.length+dt l:=by
 induction l with
 | nil=>intro a; simp [dt]
 | cons b l ih =>
  intro a;simp only [List.foldl_cons,dt];rw [ih,ih (0*C+b.toNat)];rw [List.length_cons,Nat.pow_succ,Nat.add_mul,Nat.zero_mul,Nat.zero_add,Nat.mul_assoc,Nat.mul_comm C,Nat.add_assoc]
theorem r8 (b:UInt8) (l:List UInt8):dt (b::l)=b.toNat*C ^ l.length+dt l:=by
 have:=MH l (0*C+b.toNat);rw [Nat.zero_mul,Nat.zero_add] at this
 simpa [dt] using this
theorem BE (l m:List UInt8):dt (l++m)=dt l*C ^ m.length+dt m:=by
 unfold dt;rw [List.foldl_append,MH]
 rfl
theorem Ie (b:UInt8):b.toNat < C:=b.toNat_lt
theorem sH (l:List UInt8):dt l < C ^ l.length:=by
 induction l with
 | nil=>decide
 | cons b l ih =>
  rw [r8,List.length_cons,Nat.pow_succ];have:=Ie b;have J:(b.toNat+1)*C ^ l.length≤C*C ^ l.length:=Nat.mul_le_mul_right _ this;rw [Nat.add_mul] at J;rw [Nat.mul_comm (C ^ l.length)];omega
theorem Ww {l:List UInt8} {i:Nat} (h:i < l.length):l[i].toNat=dt l / C ^ (l.length - 1 - i) % C:=by
 induction l generalizing i with
 | nil=>simp at h
 | cons b l ih =>
  cases i with
  | zero =>
   simp only [List.getElem_cons_zero,List.length_cons,Nat.add_sub_cancel,Nat.sub_zero];rw [r8,Nat.mul_comm,Nat.mul_add_div (gZ _),Nat.div_eq_of_lt (sH l),Nat.add_zero,Nat.mod_eq_of_lt (Ie b)]
  | succ i =>
   have hi:i < l.length:=by simpa using h
   simp only [List.getElem_cons_succ,List.length_cons,Nat.add_sub_cancel];rw [ih hi,r8];have e:C ^ l.length=C ^ (l.length - (i+1))*(C*C ^ i):=by
    rw [← Nat.mul_assoc,← Nat.pow_succ,← Nat.pow_add,show l.length - (i+1)+1+i=l.length by omega]
   rw [show l.length - 1 - i=l.length - (i+1) by omega,e]
   rw [show b.toNat*(C ^ (l.length - (i+1))*(C*C ^ i))=C ^ (l.length - (i+1))*(C*(C ^ i*b.toNat)) by
    rw [Nat.mul_comm,Nat.mul_assoc,Nat.mul_assoc]]
   rw [Nat.mul_add_div (gZ _),Nat.mul_add_mod]
def ab (s:ByteArray):Nat:=dt s.data.toList
theorem size_eq (s:ByteArray):s.data.toList.length=s.size:=rfl
theorem gx (s:ByteArray):ab s < C ^ s.size:=sH _
theorem uo {s:ByteArray} {i:Nat} (h:i < s.size):bW s i=ab s / C ^ (s.size - 1 - i) % C:=by
 have h':i < s.data.toList.length:=h;have:=Ww h';unfold bW ab;rw [List.getD_eq_getElem?_getD,List.getElem?_eq_getElem h',Option.getD_some,this]
 rfl
theorem wT (s:ByteArray) (i:Nat):bW s i < C:=Ie _
theorem Hw {s t:ByteArray} (h:s.data.toList=t.data.toList):s=t:=by
 cases s; cases t; congr; exact Array.ext' h
theorem Wx {l m:List UInt8} (h:l.length=m.length) (J:dt l=dt m):l=m:=by
 induction l generalizing m with
 | nil=>cases m with
  | nil=>rfl
  | cons=>simp at h
 | cons a l ih=>cases m with
  | nil=>simp at h
  | cons b m =>
   simp only [List.length_cons,Nat.add_right_cancel_iff] at h;rw [r8,r8,h] at J;have h3:=sH l;have h4:=sH m;rw [h] at h3;have ha:a.toNat=b.toNat:=by
    have e1:(a.toNat*C ^ m.length+dt l) / C ^ m.length=a.toNat:=by
     rw [Nat.mul_comm,Nat.mul_add_div (gZ _),Nat.div_eq_of_lt h3,Nat.add_zero]
    have e2:(b.toNat*C ^ m.length+dt m) / C ^ m.length=b.toNat:=by
     rw [Nat.mul_comm,Nat.mul_add_div (gZ _),Nat.div_eq_of_lt h4,Nat.add_zero]
    rw [← e1,← e2,J]
   rw [ha] at J;rw [UInt8.toNat_inj.1 ha,ih h (by omega)]
theorem Wy {s t:ByteArray} (h:s.size=t.size) (J:ab s=ab t):s=t:=Hw (Wx h J)
def pV:Nat→Nat→List UInt8
 | 0,_=>[]
 | n+1,Y=>pV n (Y / C)++[UInt8.ofNat (Y % C)]
theorem wL:∀ (n Y:Nat),(pV n Y).length=n
 | 0,_=>rfl
 | n+1,Y=>by simp [pV,wL n]
theorem ofNat_mod (x:Nat):(UInt8.ofNat (x % C)).toNat=x % C:=by
 have:x % C < 256:=Nat.mod_lt _ (by decide)
 simp [UInt8.toNat_ofNat,Nat.mod_eq_of_lt this]
theorem Nt:∀ (n Y:Nat),dt (pV n Y)=Y % C ^ n
 | 0,Y=>by simp [pV,dt,Nat.mod_one]
 | n+1,Y=>by
  rw [pV,BE,Nt n,r8];simp only [List.length_cons,List.length_nil,Nat.zero_add,Nat.pow_zero,Nat.mul_one,Nat.pow_one];rw [ofNat_mod,Nat.pow_succ,Nat.mul_comm (C ^ n),Nat.mod_mul];simp only [dt,List.foldl_nil,Nat.add_zero];rw [Nat.mul_comm]; omega
def be (n Y:Nat):ByteArray:=⟨⟨pV n Y⟩⟩
theorem xp (n Y:Nat):(be n Y).size=n:=wL n Y
theorem GY (n Y:Nat):ab (be n Y)=Y % C ^ n:=Nt n Y
def aS (N:Nat):Nat:=if h:N=0 then 0 else aS (N / C)+1
decreasing_by exact Nat.div_lt_self (by omega) (by decide)
theorem w9:aS 0=0:=by rw [aS]; rfl
theorem Gr {N:Nat} (h:N≠0):aS N=aS (N / C)+1:=by rw [aS]; simp [h]
theorem lF (N:Nat):N < C ^ aS N:=by
 induction N using Nat.strongRecOn with
 | _ N ih =>
  by_cases h:N=0
  ·subst h; rw [w9]; decide
  ·have:=ih (N / C) (Nat.div_lt_self (by omega) (by decide))
   rw [Gr h,Nat.pow_succ];exact (Nat.div_lt_iff_lt_mul (by decide)).1 this
theorem gR {N n:Nat} (h:N < C ^ n):aS N≤n:=by
 induction n generalizing N with
 | zero =>
  have:N=0:=by simpa using h
  subst this; rw [w9]; exact Nat.le_refl _
 | succ n ih =>
  by_cases h0:N=0
  ·subst h0; rw [w9]; omega
  ·have:N / C < C ^ n:=(Nat.div_lt_iff_lt_mul (by decide)).2 (by rw [← Nat.pow_succ]; exact h)
   rw [Gr h0];have:=ih this;omega
theorem GZ {N:Nat} (h:N≠0):0 < aS N:=by rw [Gr h]; omega
theorem Tm {N:Nat} (h:aS N=0):N=0:=by
 by_cases h0:N=0
 ·exact h0
 ·have:=GZ h0; omega
theorem iT {M N:Nat} (h:M≤N):aS M≤aS N:=gR (Nat.lt_of_le_of_lt h (lF N))
theorem SV {M N:Nat} (h:aS M < aS N):M < N:=by
 rcases Nat.lt_or_ge M N with h1 | h1
 ·exact h1
 ·have:=iT h1; omega
theorem Pc {N n:Nat} (h:N < C ^ n) (J:n=0∨C ^ (n - 1)≤N):aS N=n:=by
 rcases J with rfl | J
 ·have:=gR h; omega
 ·have h3:=gR h;rcases Nat.lt_or_ge (aS N) n with h4 | h4
  ·have h5:C ^ aS N≤C ^ (n - 1):=Nat.pow_le_pow_right (by decide) (by omega)
   have:=lF N;omega
  ·omega
theorem SG {N:Nat} (h:N≠0):C ^ (aS N - 1)≤N:=by
 rcases Nat.lt_or_ge N (C ^ (aS N - 1)) with h1 | h1
 ·have:=gR h1;have:=GZ h;omega
 ·exact h1
def nb (N:Nat):ByteArray:=be (aS N) N
theorem gG (N:Nat):(nb N).size=aS N:=xp _ _
theorem ij (N:Nat):ab (nb N)=N:=by unfold nb; rw [GY,Nat.mod_eq_of_lt (lF N)]
theorem Pd {M N:Nat} (h:nb M=nb N):M=N:=by rw [← ij M,h,ij]
theorem oZ:nb 0=⟨#[]⟩:=by unfold nb; rw [w9]; rfl
theorem jh (s:ByteArray):aS (ab s)≤s.size:=gR (gx s)
theorem ads {s:ByteArray} (h:s.size=0∨C ^ (s.size - 1)≤ab s):s=nb (ab s):=by
 refine Wy ?_ (ij _).symm;rw [gG,Pc (gx s) h]
theorem zA {s:ByteArray} (h:s.size=0∨bW s 0≠0):s=nb (ab s):=by
 refine ads (h.imp_right fun h=>?_)
 by_cases h0:s.size=0
 ·exfalso;apply h;unfold bW;have:s.data.toList=[]:=List.eq_nil_of_length_eq_zero h0;rw [this]; rfl
 ·rw [uo (by omega)] at h
  rcases Nat.lt_or_ge (ab s) (C ^ (s.size - 1)) with h1 | h1
  ·rw [Nat.sub_zero,Nat.div_eq_of_lt h1] at h;exact absurd rfl h
  ·exact h1
theorem Tn (s t:ByteArray):ab (s++t)=ab s*C ^ t.size+ab t:=by
 unfold ab;have:(s++t).data.toList=s.data.toList++t.data.toList:=by simp
 rw [this,BE]; rfl
theorem KV (s:ByteArray) (l h:Nat):(s.extract l h).data.toList=(s.data.toList.take h).drop l:=by
 simp [ByteArray.data_extract,List.extract,List.drop_take]
theorem E8 {s:ByteArray} {l h:Nat} (h1:l≤h) (J:h≤s.size):(s.extract l h).size=h - l:=by
 rw [← size_eq,KV];have:h≤s.data.toList.length:=J;simp; omega
theorem Vm (l:List UInt8) (n:Nat) (h:n≤l.length):dt (l.drop n)=dt l % C ^ (l.length - n):=by
 have e:dt l=dt (l.take n)*C ^ (l.drop n).length+dt (l.drop n):=by rw [← BE,List.take_append_drop]
 have J:=sH (l.drop n);rw [List.length_drop] at e J;rw [e,Nat.mul_comm,Nat.mul_add_mod,Nat.mod_eq_of_lt J]
theorem Vn (l:List UInt8) (n:Nat) (h:n≤l.length):dt (l.take n)=dt l / C ^ (l.length - n):=by
 have e:dt l=dt (l.take n)*C ^ (l.drop n).length+dt (l.drop n):=by rw [← BE,List.take_append_drop]
 have J:=sH (l.drop n);rw [List.length_drop] at e J;rw [e,Nat.mul_comm,Nat.mul_add_div (gZ _),Nat.div_eq_of_lt J,Nat.add_zero]
theorem Fb {s:ByteArray} {l h:Nat} (h1:l≤h) (J:h≤s.size):ab (s.extract l h)=ab s / C ^ (s.size - h) % C ^ (h - l):=by
 unfold ab;have j3:h≤s.data.toList.length:=J;have e:(s.data.toList.take h).length=h:=by rw [List.length_take]; omega
 rw [KV,Vm _ _ (by rw [e]; exact h1),Vn _ _ j3,e]
 rfl
theorem qF (s t:ByteArray):(s.toList == t.toList)=decide (s=t):=by
 rw [ByteArray.toList_eq,ByteArray.toList_eq];by_cases h:s=t
 ·subst h; simp
 ·simp [h];intro J;exact h (Hw (by rw [J]))
theorem F3 {s:ByteArray}:s=⟨#[]⟩↔s.size=0:=by
 constructor
 ·intro h; subst h; rfl
 ·intro h;refine Hw ?_;exact List.eq_nil_of_length_eq_zero h
theorem KW {N:Nat}:nb N=⟨#[]⟩↔N=0:=by
 rw [F3,gG];exact ⟨Tm,fun h=>by rw [h,w9]⟩
theorem KX:∀ {l m:List UInt8},l.length=m.length→Op.bytesLess l m=decide (dt l < dt m)
 | [],[],_=>by simp [Op.bytesLess,dt]
 | [],_::_,h=>by simp at h
 | _::_,[],h=>by simp at h
 | a::l,b::m,h=>by
  have h:l.length=m.length:=by simpa using h
  have ih:=KX h;unfold Op.bytesLess;rw [ih,r8,r8,h];have h3:=sH l;have h4:=sH m;rw [h] at h3;rcases Nat.lt_trichotomy a.toNat b.toNat with c9 | c9 | c9
  ·have:a < b:=UInt8.lt_iff_toNat_lt.2 c9;have h5:(a.toNat+1)*C ^ m.length≤b.toNat*C ^ m.length:=Nat.mul_le_mul_right _ c9;rw [Nat.add_mul] at h5;have h6:a.toNat*C ^ m.length+dt l < b.toNat*C ^ m.length+dt m:=by omega
   simp [this,h6]
  ·have e:a=b:=UInt8.toNat_inj.1 c9;subst e;simp
  ·have:¬ a < b:=fun h=>by have:=UInt8.lt_iff_toNat_lt.1 h; omega
   have h5:(b.toNat+1)*C ^ m.length≤a.toNat*C ^ m.length:=Nat.mul_le_mul_right _ c9;rw [Nat.add_mul] at h5;have h6:¬ (a.toNat*C ^ m.length+dt l < b.toNat*C ^ m.length+dt m):=by omega
   have h7:¬ a=b:=fun e=>by subst e; omega
   simp [this,h6,h7]
theorem Wz {s t:ByteArray} (h:s.size=t.size):Op.bytesLess s.toList t.toList=decide (ab s < ab t):=by
 rw [ByteArray.toList_eq,ByteArray.toList_eq];exact KX h
open Go
theorem sU (a:Int) (k:Nat):a.fdiv (2 ^ k)=a / 2 ^ k:=Int.fdiv_eq_ediv_of_nonneg _ (Int.le_of_lt (Int.pow_pos (by decide)))
theorem F4 (b:BitVec 32):IntKind.u32.wrap (b.toNat:Int)=b.toNat:=dk (by omega) (by have:=b.isLt; omega)
theorem WA {w:Nat} (b:BitVec w):BitVec.ofInt w (b.toNat:Int)=b:=by
 rw [BitVec.ofInt_natCast,BitVec.ofNat_toNat]; simp
theorem X3 (b:BitVec 32):(b.toNat:Int) / 2147483648=if b.msb then 1 else 0:=by
 have h:=b.isLt;rw [BitVec.msb_eq_decide];by_cases h1:2 ^ (32 - 1)≤b.toNat
 ·simp [h1]; omega
 ·simp [h1]; omega
theorem toNat_ofInt32 (x:Nat) (h:x < 4294967296):(BitVec.ofInt 32 (x:Int)).toNat=x:=by
 rw [BitVec.ofInt_natCast,BitVec.toNat_ofNat]; exact Nat.mod_eq_of_lt h
theorem Fk (x:Nat) (h:x < 4294967296):(BitVec.ofInt 32 (x:Int)).msb=decide (2147483648≤x):=by
 rw [BitVec.msb_eq_decide,toNat_ofInt32 x h]
theorem T4 (x y c:Nat) (hx:x < 4294967296) (hy:y < 4294967296) (hc:c≤1) (d:Nat) (hd:d=(x+2*4294967296 - y - c) % 4294967296) :
  (((BitVec.ofInt 32 (4294967295:Int) ^^^ BitVec.ofInt 32 (x:Int)) &&& BitVec.ofInt 32 (y:Int)) ||| ((BitVec.ofInt 32 (4294967295:Int) ^^^ (BitVec.ofInt 32 (x:Int) ^^^ BitVec.ofInt 32 (y:Int))) &&& BitVec.ofInt 32 (d:Int))).msb=decide (x < y+c):=by
 have cV:d < 4294967296:=by omega
 have ho:(BitVec.ofInt 32 (4294967295:Int)).msb=true:=by decide
 rw [BitVec.msb_or,BitVec.msb_and,BitVec.msb_and,BitVec.msb_xor,BitVec.msb_xor,BitVec.msb_xor,ho,Fk x hx,Fk y hy,Fk d cV];by_cases h1:2147483648≤x <;> by_cases J:2147483648≤y <;> by_cases h3:2147483648≤d <;> simp [h1,J,h3] <;> omega
theorem X4 (x y:Nat) (hx:x < 4294967296) (hy:y < 4294967296):((BitVec.ofInt 64 ((x:Int)*4294967296) ||| BitVec.ofInt 64 (y:Int)).toNat:Int)=(x*4294967296+y:Nat):=by
 have e1:BitVec.ofInt 64 ((x:Int)*4294967296)=BitVec.ofNat 64 (x*4294967296):=by
  rw [← BitVec.ofInt_natCast]; congr 1
 rw [e1,BitVec.ofInt_natCast,BitVec.toNat_or,BitVec.toNat_ofNat,BitVec.toNat_ofNat,Nat.mod_eq_of_lt (by omega),Nat.mod_eq_of_lt (by omega)]
 have:=Nat.shiftLeft_add_eq_or_of_lt (i:=32) (b:=y) (by simpa using hy) x
 rw [Nat.shiftLeft_eq] at this;have J:(2:Nat) ^ 32=4294967296:=by decide
 rw [J] at this;rw [← this]
theorem dY (a:Int):a.fdiv (2 ^ min (Int.toNat 31) IntKind.u64.bits)=a / 2147483648:=by rw [sU]; rfl
theorem cf (a:Int):a.fdiv (2 ^ min (Int.toNat 32) IntKind.u64.bits)=a / 4294967296:=by rw [sU]; rfl
theorem dq (a:Int):a.fdiv (2 ^ min (Int.toNat 8) IntKind.u32.bits)=a / 256:=by rw [sU]; rfl
theorem dy (a:Int):a.fdiv (2 ^ min (Int.toNat 16) IntKind.u32.bits)=a / 65536:=by rw [sU]; rfl
theorem dH (a:Int):a.fdiv (2 ^ min (Int.toNat 24) IntKind.u32.bits)=a / 16777216:=by rw [sU]; rfl
theorem dc (a:Int):a.fdiv (2 ^ min (Int.toNat 8) IntKind.i64.bits)=a / 256:=by rw [sU]; rfl
def C7 (x y c:Int):Int:=IntKind.u32.wrap (IntKind.u32.wrap (x - y) - c)
def Hx (x y c:Int):Int:=(IntKind.u32.wrap ((BitVec.ofInt 32 (IntKind.u32.wrap ((BitVec.ofInt 32 (IntKind.u32.wrap ((BitVec.ofInt 32 (4294967295:Int) ^^^ BitVec.ofInt 32 x).toNat:Int)) &&& BitVec.ofInt 32 y).toNat:Int)) |||
 BitVec.ofInt 32 (IntKind.u32.wrap ((BitVec.ofInt 32 (IntKind.u32.wrap ((BitVec.ofInt 32 (4294967295:Int) ^^^ BitVec.ofInt 32 (IntKind.u32.wrap ((BitVec.ofInt 32 x ^^^ BitVec.ofInt 32 y).toNat:Int))).toNat:Int)) &&&
  BitVec.ofInt 32 (C7 x y c)).toNat:Int))).toNat:Int)).fdiv (2 ^ 31)
theorem MI {x y c:Nat} (hx:x < 4294967296) (hy:y < 4294967296) (hc:c≤1):C7 x y c=((x+2*4294967296 - y - c) % 4294967296:Nat):=by
 unfold C7;rw [w8,w8]; omega
theorem Vo {x y c:Nat} (hx:x < 4294967296) (hy:y < 4294967296) (hc:c≤1):Hx x y c=if x < y+c then 1 else 0:=by
 unfold Hx;rw [MI hx hy hc];simp only [F4,WA,sU];rw [show (2:Int) ^ 31=2147483648 by decide,X3,T4 x y c hx hy hc _ rfl]
 simp
theorem X5 {x k:Nat} (h1:2 ^ k≤x) (J:x < 2 ^ (k+1)):x.log2=k:=by
 have hx:x≠0:=by have:=Nat.pow_pos (n:=k) (show 0 < 2 by decide); omega
 have a1:=(Nat.log2_lt hx).2 J;have a2:=(Nat.le_log2 hx).2 h1;omega
def fh (x:Nat):Nat:=if x=0 then 0 else x.log2+1
theorem G0 (x:Nat):x < 2 ^ fh x:=by
 unfold fh
 split
 ·omega
 ·rename_i h; exact (Nat.log2_lt h).1 (Nat.lt_succ_self _)
theorem KE {x:Nat} (h:x≠0):2 ^ (fh x - 1)≤x:=by
 unfold fh;rw [if_neg h];exact (Nat.le_log2 h).1 (Nat.le_refl _)
theorem X6 {x k:Nat} (h1:x < 2 ^ k) (J:k=0∨2 ^ (k - 1)≤x):fh x=k:=by
 rcases J with rfl | J
 ·have:x=0:=by simpa using h1
  subst this; rfl
 ·by_cases h0:k=0
  ·subst h0;have:x=0:=by simpa using h1
   subst this; rfl
  ·have hx:x≠0:=by have:=Nat.pow_pos (n:=k - 1) (show 0 < 2 by decide); omega
   unfold fh;rw [if_neg hx,X5 J (by rw [show k - 1+1=k by omega]; exact h1)]
   omega
theorem BS {x k:Nat} (h:2 ^ k≤x):fh x=k+fh (x / 2 ^ k):=by
 have hp:=Nat.pow_pos (n:=k) (show 0 < 2 by decide)
 have hq:x / 2 ^ k≠0:=by have:=Nat.div_pos h hp; omega
 have hb:0 < fh (x / 2 ^ k):=by unfold fh; rw [if_neg hq]; omega
 refine X6 ?_ (.inr ?_)
 ·have:=G0 (x / 2 ^ k);rw [Nat.pow_add,Nat.mul_comm];exact (Nat.div_lt_iff_lt_mul hp).1 this
 ·have:=KE hq;rw [show k+fh (x / 2 ^ k) - 1=k+(fh (x / 2 ^ k) - 1) by omega,Nat.pow_add,Nat.mul_comm]
  exact (Nat.le_div_iff_mul_le hp).1 this
theorem dA (x y:Nat) (hx:x < 4294967296) (hy:y < 4294967296):IntKind.u64.wrap ((BitVec.ofInt IntKind.u64.bits ((x:Int)*4294967296) ||| BitVec.ofInt IntKind.u64.bits (y:Int)).toNat:Int)=(x:Int)*4294967296+y:=by
 have h:=X4 x y hx hy;have:IntKind.u64.wrap ((BitVec.ofInt 64 ((x:Int)*4294967296) ||| BitVec.ofInt 64 (y:Int)).toNat:Int)=(x:Int)*4294967296+y:=by
  rw [h,bK (by omega) (by omega)]; omega
 exact this
theorem X7 (x y:Nat) (hx:x < 36028797018963968) (hy:y < 256):((BitVec.ofInt 64 ((x:Int)*256) ||| BitVec.ofInt 64 (y:Int)).toNat:Int)=(x*256+y:Nat):=by
 have e1:BitVec.ofInt 64 ((x:Int)*256)=BitVec.ofNat 64 (x*256):=by
  rw [← BitVec.ofInt_natCast]; congr 1
 rw [e1,BitVec.ofInt_natCast,BitVec.toNat_or,BitVec.toNat_ofNat,BitVec.toNat_ofNat,Nat.mod_eq_of_lt (by omega),Nat.mod_eq_of_lt (by omega)]
 have:=Nat.shiftLeft_add_eq_or_of_lt (i:=8) (b:=y) (by simpa using hy) x
 rw [Nat.shiftLeft_eq] at this;have J:(2:Nat) ^ 8=256:=by decide
 rw [J] at this;rw [← this]
theorem dP (x y:Nat) (hx:x < 36028797018963968) (hy:y < 256):IntKind.i64.wrap ((BitVec.ofInt IntKind.i64.bits ((x:Int)*256) ||| BitVec.ofInt IntKind.i64.bits (y:Int)).toNat:Int)=(x:Int)*256+y:=by
 have h:=X7 x y hx hy;have:IntKind.i64.wrap ((BitVec.ofInt 64 ((x:Int)*256) ||| BitVec.ofInt 64 (y:Int)).toNat:Int)=(x:Int)*256+y:=by
  rw [h,ax (by omega) (by omega)]; omega
 exact this
theorem toNat_cast (n:Nat):((n:Int)).toNat=n:=Int.toNat_natCast n
theorem X8 {x:Nat} (h:x < 256):fh x≤8:=by
 unfold fh
 split
 ·omega
 ·rename_i h0; have:=(Nat.log2_lt h0).2 (show x < 2 ^ 8 from h); omega
theorem Nv {x:Nat} (h:x < 4294967296):fh x≤32:=by
 unfold fh
 split
 ·omega
 ·rename_i h0; have:=(Nat.log2_lt h0).2 (show x < 2 ^ 32 from h); omega
theorem dX (c:Nat):uQ c 0=c:=by
 unfold uQ;cases h:decide (c=aI) with
 | true=>exact (of_decide_eq_true h).symm
 | false=>rfl
theorem toNat_0:Int.toNat 0=0:=rfl
theorem toNat_1:Int.toNat 1=1:=rfl
theorem Hz (x y k:Nat) (hx:x < 2 ^ k):x ||| (y*2 ^ k)=x+y*2 ^ k:=by
 have:=Nat.shiftLeft_add_eq_or_of_lt hx y;rw [Nat.shiftLeft_eq] at this;rw [Nat.or_comm,← this,Nat.add_comm]
theorem T5 (x y e:Nat) (hx:x < 256 ^ e) (hy:y < 256) (he:e < 4):IntKind.u32.wrap ((BitVec.ofInt IntKind.u32.bits (x:Int) ||| BitVec.ofInt IntKind.u32.bits (IntKind.u32.wrap ((y:Int)*2 ^ (min (8*e) IntKind.u32.bits)))).toNat:Int)=((x+y*256 ^ e:Nat):Int):=by
 have hp:(256:Nat) ^ e=2 ^ (8*e):=by rw [show (256:Nat)=2 ^ 8 from rfl,← Nat.pow_mul]
 have al:x+y*2 ^ (8*e) < 4294967296:=by
  have h1:(y+1)*2 ^ (8*e)≤256*2 ^ (8*e):=Nat.mul_le_mul_right _ hy;have J:256*2 ^ (8*e)≤4294967296:=by
   have:2 ^ (8*e)≤2 ^ 24:=Nat.pow_le_pow_right (by decide) (by omega)
   omega
  rw [Nat.add_mul] at h1;rw [hp] at hx;omega
 have rm:x < 2 ^ (8*e):=by rw [← hp]; exact hx
 have e1:IntKind.u32.wrap ((y:Int)*2 ^ (min (8*e) 32))=((y*2 ^ (8*e):Nat):Int):=by
  rw [show min (8*e) 32=8*e by omega]
  have:((y*2 ^ (8*e):Nat):Int)=(y:Int)*2 ^ (8*e):=by simp
  rw [← this,dk (by omega) (by omega)]
 have key:IntKind.u32.wrap ((BitVec.ofInt 32 (x:Int) ||| BitVec.ofInt 32 (IntKind.u32.wrap ((y:Int)*2 ^ (min (8*e) 32)))).toNat:Int)=((x+y*256 ^ e:Nat):Int):=by
  rw [e1,F4,BitVec.toNat_or,toNat_ofInt32 _ (by omega),toNat_ofInt32 _ (by omega),Hz _ _ _ rm,hp]
 exact key
theorem Pe {N n:Nat} (h:N < B ^ n) (J:n=0∨B ^ (n - 1)≤N):nl N=n:=by
 rcases J with rfl | J
 ·have:=jO h; omega
 ·have h3:=jO h;rcases Nat.lt_or_ge (nl N) n with h4 | h4
  ·have h5:B ^ nl N≤B ^ (n - 1):=Nat.pow_le_pow_right (by decide) (by omega)
   have:=bV N;omega
  ·omega
theorem DY (n:Nat):B ^ n=C ^ (4*n):=by rw [Nat.pow_mul]; rfl
theorem Pf (N:Nat):nl N=(aS N+3) / 4:=by
 refine Pe ?_ ?_
 ·rw [DY];exact Nat.lt_of_lt_of_le (lF N) (Nat.pow_le_pow_right (by decide) (by omega))
 ·by_cases h:N=0
  ·left; subst h; rw [w9]
  ·right
   have:=GZ h;rw [DY];exact Nat.le_trans (Nat.pow_le_pow_right (by decide) (by omega)) (SG h)
theorem Vp (N i:Nat):cE (N % C ^ i) (i / 4) (an (N % C ^ i) (i / 4)+N / C ^ i % C*256 ^ (i % 4))=N % C ^ (i+1)∧an (N % C ^ i) (i / 4) < 256 ^ (i % 4):=by
 have hB:B ^ (i / 4)*256 ^ (i % 4)=C ^ i:=by
  rw [DY,← Nat.pow_add]; congr 1; omega
 have al:N % C ^ i < C ^ i:=Nat.mod_lt _ (gZ i);have hl:an (N % C ^ i) (i / 4) < 256 ^ (i % 4):=by
  have h1:N % C ^ i / B ^ (i / 4) < 256 ^ (i % 4):=(Nat.div_lt_iff_lt_mul (eF _)).2 (by rw [Nat.mul_comm,hB]; exact al)
  unfold an;exact Nat.lt_of_le_of_lt (Nat.mod_le _ _) h1
 refine ⟨?_,hl⟩;have h:=p7 (N % C ^ i) (i / 4) (an (N % C ^ i) (i / 4)+N / C ^ i % C*256 ^ (i % 4));have e:N % C ^ (i+1)=N % C ^ i+C ^ i*(N / C ^ i % C):=by rw [Nat.pow_succ,Nat.mod_mul]
 have e2:N / C ^ i % C*256 ^ (i % 4)*B ^ (i / 4)=C ^ i*(N / C ^ i % C):=by
  rw [Nat.mul_assoc,Nat.mul_comm (256 ^ (i % 4)),hB,Nat.mul_comm]
 rw [Nat.add_mul,e2] at h;omega
theorem dR (a:Nat):((a:Int)).tdiv 4=((a / 4:Nat):Int):=rfl
theorem eg (a:Nat):((a:Int)).tmod 4=((a % 4:Nat):Int):=rfl
theorem dZ (a:Nat):(8:Int)*(a:Int)=((8*a:Nat):Int):=by omega
theorem eh {m:Nat} (h:0 < m):(m:Int) - 1=((m - 1:Nat):Int):=by omega
theorem eD (m:Nat):(m:Int)+1=((m+1:Nat):Int):=by omega
theorem eG {a b:Nat} (h:b≤a):(a:Int) - (b:Int)=((a - b:Nat):Int):=by omega
theorem eH (a b:Nat):(a:Int)+(b:Int)=((a+b:Nat):Int):=by omega
theorem eE (a:Nat):(8:Int)*(a:Int)=((8*a:Nat):Int):=by omega
theorem WB {Q L m r:Nat} (hL:L < B) (hr:r < m):(Q*B+L) / C ^ (m+4 - 1 - r) % C=Q / C ^ (m - 1 - r) % C:=by
 have e:C ^ (m+4 - 1 - r)=B*C ^ (m - 1 - r):=by
  rw [show m+4 - 1 - r=4+(m - 1 - r) by omega,Nat.pow_add]; rfl
 rw [e,← Nat.div_div_eq_div_mul];have:(Q*B+L) / B=Q:=by rw [Nat.mul_comm,Nat.mul_add_div (by decide),Nat.div_eq_of_lt hL,Nat.add_zero]
 rw [this]
theorem WC {Q L e:Nat} (he:e≤3):(Q*B+L) / C ^ e % C=L / C ^ e % C:=by
 have h:B=C ^ e*(C ^ (3 - e)*C):=by
  rw [← Nat.mul_assoc,← Nat.pow_add,← Nat.pow_succ,show (e+(3 - e)).succ=4 by omega]; rfl
 rw [show Q*B=C ^ e*(Q*C ^ (3 - e)*C) by rw [h,Nat.mul_comm Q,Nat.mul_assoc,Nat.mul_comm (C ^ (3 - e)*C) Q,Nat.mul_assoc Q]]
 rw [Nat.mul_add_div (gZ _),Nat.mul_add_mod_self_right]
theorem Oo:∀ {n Y r:Nat} (h:r < n),(pV n Y)[r]?=some (UInt8.ofNat (Y / C ^ (n - 1 - r) % C))
 | n+1,Y,r,h=>by
  unfold pV;by_cases hr:r < n
  ·rw [List.getElem?_append_left (by rw [wL]; exact hr),Oo hr,Nat.div_div_eq_div_mul,← Nat.pow_succ']
   congr 5; omega
  ·have:r=n:=by omega
   subst this;rw [List.getElem?_append_right (by rw [wL]; exact Nat.le_refl _),wL]
   simp
theorem wM {g:Nat→List Value} {m X:Nat} (h:∀ r,r < m→g r=[.int .u8 ((X / C ^ (m - 1 - r) % C:Nat):Int)]):(⟨⟨bytesOf g 0 m⟩⟩:ByteArray)=be m X:=by
 unfold be
 congr 2
 apply List.ext_getElem?;intro r;by_cases hr:r < m
 ·rw [Oo hr];unfold bytesOf;rw [List.getElem?_map,List.getElem?_range hr];simp only [Option.map_some,Nat.zero_add,h r hr,toNat_cast]
 ·rw [List.getElem?_eq_none (l:=pV m X) (by rw [wL]; omega),List.getElem?_eq_none (by simp [bytesOf]; omega)]
theorem dz (a:Int):a*2 ^ min (Int.toNat 32) IntKind.u64.bits=a*4294967296:=rfl
theorem ef (a:Int):a*2 ^ min (Int.toNat 8) IntKind.i64.bits=a*256:=rfl
theorem P0 (L:Nat):IntKind.u8.wrap ((L:Int) / 16777216)=((L / C ^ 3 % C:Nat):Int):=by rw [lz]; rfl
theorem P3 (L:Nat):IntKind.u8.wrap ((L:Int) / 65536)=((L / C ^ 2 % C:Nat):Int):=by rw [lz]; rfl
theorem QJ (L:Nat):IntKind.u8.wrap ((L:Int) / 256)=((L / C ^ 1 % C:Nat):Int):=by rw [lz]; rfl
theorem QM (L:Nat):IntKind.u8.wrap (L:Int)=((L / C ^ 0 % C:Nat):Int):=by rw [lz,Nat.pow_zero,Nat.div_one]; rfl
theorem LQ {N i m:Nat} {g:Nat→List Value} (hi:0 < i) (hg:∀ r,r < m→g r=[.int .u8 ((N / B ^ i / C ^ (m - 1 - r) % C:Nat):Int)]) {L0 L1 L2 L3:List Value}
  (h0:L0=[.int .u8 ((an N (i - 1) / C ^ 3 % C:Nat):Int)]) (h1:L1=[.int .u8 ((an N (i - 1) / C ^ 2 % C:Nat):Int)]) (J:L2=[.int .u8 ((an N (i - 1) / C ^ 1 % C:Nat):Int)]) (h3:L3=[.int .u8 ((an N (i - 1) / C ^ 0 % C:Nat):Int)]) :
  ∀ r,r < m+4→iH g m (fun j=>[L0,L1,L2,L3].getD j []) r=[.int .u8 ((N / B ^ (i - 1) / C ^ (m+4 - 1 - r) % C:Nat):Int)]:=by
 intro r hr;have hd:=qi N (i - 1);rw [show i - 1+1=i by omega] at hd
 have hd:N / B ^ (i - 1)=N / B ^ i*B+an N (i - 1):=by rw [hd,Nat.add_comm,Nat.mul_comm]
 by_cases h:r < m
 ·rw [ji h,hg r h,hd,WB (cH _ _) h]
 ·rw [gw (by omega),hd,WC (by omega)]
  have:r - m=0∨r - m=1∨r - m=2∨r - m=3:=by omega
  rcases this with e | e | e | e <;> rw [e]
  ·rw [show m+4 - 1 - r=3 by omega]; exact h0
  ·rw [show m+4 - 1 - r=2 by omega]; exact h1
  ·rw [show m+4 - 1 - r=1 by omega]; exact J
  ·rw [show m+4 - 1 - r=0 by omega]; exact h3
theorem BF {Y i d:Nat} (hY:Y < B ^ i):cE Y i d=Y+d*B ^ i:=by
 have h:=p7 Y i d;rw [uz hY (Nat.le_refl _),Nat.zero_mul,Nat.add_zero] at h;exact h
theorem To {x y b d b' P K Y u v:Nat} (hY:Y < P) (he:u+b*P=Y+v) (hd:x+b'*K=y+b+d) (dO:d < K):Y+d*P < P*K∧u+x*P+b'*(P*K)=Y+d*P+(v+y*P):=by
 have h1:(x+b'*K)*P=(y+b+d)*P:=by rw [hd]
 rw [Nat.add_mul,Nat.add_mul,Nat.add_mul] at h1;have J:b'*(P*K)=b'*K*P:=by rw [Nat.mul_comm P,Nat.mul_assoc]
 have h3:(d+1)*P≤P*K:=by rw [Nat.mul_comm P]; exact Nat.mul_le_mul_right _ dO
 rw [Nat.add_mul,Nat.one_mul] at h3;rw [J];exact ⟨by omega,by omega⟩
theorem T6 {A D Y b i d b':Nat} (hY:Y < B ^ i) (he:A % B ^ i+b*B ^ i=Y+D % B ^ i) (hd:an A i+b'*B=an D i+b+d) (dO:d < B) :
  cE Y i d < B ^ (i+1)∧A % B ^ (i+1)+b'*B ^ (i+1)=cE Y i d+D % B ^ (i+1):=by
 rw [BF hY,mod_succ A i,mod_succ D i,Nat.pow_succ];exact To hY he hd dO
theorem mo {Z j d m:Nat} (hZ:Z < B ^ m) (hj:j < m) (hd:d < B):cE Z j d < B ^ m:=by
 have h1:(cE Z j d) / B ^ m=0:=by
  have e:B ^ m=B ^ j*(B*B ^ (m - j - 1)):=by
   rw [← Nat.mul_assoc,← Nat.pow_succ,← Nat.pow_add,show j+1+(m - j - 1)=m by omega]
  have ha:Z % B ^ j < B ^ j:=Nat.mod_lt _ (eF j);unfold cE;rw [e,← Nat.div_div_eq_div_mul,oR ha,← Nat.div_div_eq_div_mul,oR hd,Nat.div_div_eq_div_mul,← Nat.pow_add,show j+1+(m - j - 1)=m by omega]
  exact Nat.div_eq_of_lt hZ
 rcases Nat.lt_or_ge (cE Z j d) (B ^ m) with h | h
 ·exact h
 ·have:=Nat.div_pos h (eF m);omega
theorem Lg {Z Z' l c x d P Q K t Y v:Nat} (he:Z+c*(P*Q)=Y+x*v*P) (hs:Z'+l*(P*Q)=Z+t % K*(P*Q)) (ht:t=c+(x*d+l)) :
  Z'+t / K*(P*Q*K)=Y+x*(v+d*Q)*P:=by
 have h1:=Nat.mod_add_div t K;have J:(t % K+K*(t / K))*(P*Q)=(c+(x*d+l))*(P*Q):=by rw [h1,ht]
 rw [Nat.add_mul,Nat.add_mul,Nat.add_mul] at J;have e1:K*(t / K)*(P*Q)=t / K*(P*Q*K):=by
  rw [Nat.mul_comm K,Nat.mul_assoc,Nat.mul_comm K]
 have e2:x*(v+d*Q)*P=x*v*P+x*d*(P*Q):=by
  rw [Nat.mul_add,Nat.add_mul,← Nat.mul_assoc x d Q,Nat.mul_assoc (x*d),Nat.mul_comm Q P]
 rw [e1] at J;rw [e2];generalize t / K*(P*Q*K)=a1 at *;generalize t % K*(P*Q)=a2 at *;generalize c*(P*Q)=a3 at *;generalize x*d*(P*Q)=a4 at *;generalize l*(P*Q)=a5 at *;generalize x*v*P=a6 at *;omega
theorem Lh {c x d l K t:Nat} (hc:c < K) (hx:x < K) (hd:d < K) (hl:l < K) (ht:t=c+(x*d+l)):t / K < K∧t < K*K:=by
 have h1:(x+1)*(d+1)≤K*K:=Nat.mul_le_mul hx hd;have J:t < K*K:=by
  rw [Nat.add_mul,Nat.mul_add] at h1;by_cases hk:K=0
  ·omega
  ·have h3:x*d≤(K - 1)*(K - 1):=Nat.mul_le_mul (by omega) (by omega)
   obtain ⟨k,rfl⟩:∃ k,K=k+1:=⟨K - 1,by omega⟩
   rw [Nat.add_sub_cancel] at h3;have e:(k+1)*(k+1)=k*k+k+k+1:=by rw [Nat.add_mul,Nat.mul_add]; omega
   omega
 exact ⟨(Nat.div_lt_iff_lt_mul (by omega)).2 J,J⟩
theorem T7 {Z c x D i k t Y:Nat} (he:Z+c*B ^ (i+k)=Y+x*(D % B ^ k)*B ^ i) (ht:t=c+(x*an D k+an Z (i+k))) :
  cE Z (i+k) (t % B)+t / B*B ^ (i+(k+1))=Y+x*(D % B ^ (k+1))*B ^ i:=by
 have hs:=p7 Z (i+k) (t % B);rw [mod_succ D k,← Nat.add_assoc,Nat.pow_succ];rw [Nat.pow_add] at he hs ⊢;exact Lg he hs ht
theorem Vq {A D Y Z c i n:Nat} (hY:Y=A % B ^ i*D) (hD:D < B ^ n) (hZ:Z < B ^ (i+n)) (he:Z+c*B ^ (i+n)=Y+an A i*(D % B ^ n)*B ^ i) :
  cE Z (i+n) c=A % B ^ (i+1)*D:=by
 rw [BF hZ,he,Nat.mod_eq_of_lt hD,hY,mod_succ,Nat.add_mul,Nat.mul_assoc (an A i),Nat.mul_comm D,← Nat.mul_assoc]
theorem Vr {c x d l t:Nat} (hc:c < B) (hx:x < B) (hd:d < B) (hl:l < B) (ht:t=c+(x*d+l)) :
  IntKind.u64.wrap ((c:Int)+IntKind.u64.wrap (IntKind.u64.wrap (IntKind.u64.wrap (x:Int)*IntKind.u64.wrap (d:Int))+IntKind.u64.wrap (l:Int)))=(t:Int):=by
 have hB:B=4294967296:=rfl;have h:=(Lh hc hx hd hl ht).2;have hm:((x:Int)*(d:Int))=((x*d:Nat):Int):=by simp
 rw [bK (x:=(x:Int)) (by omega) (by omega),bK (x:=(d:Int)) (by omega) (by omega),bK (x:=(l:Int)) (by omega) (by omega),hm]
 generalize x*d=m at *;rw [hB] at h;rw [bK (x:=(m:Int)) (by omega) (by omega),bK (x:=(m:Int)+(l:Int)) (by omega) (by omega),bK (by omega) (by omega)]
 omega
theorem eM (t:Nat):IntKind.u32.wrap (t:Int)=((t % B:Nat):Int):=by rw [w8]; rfl
theorem jP (t:Nat):(t:Int) / 4294967296=((t / B:Nat):Int):=rfl
open Go
def u32 (n:Nat):Value:=.int .u32 n
def i64 (n:Int):Value:=.int .i64 n
def uU:bC:={ ι:=Nat × Nat × Nat,args:=fun i=>[.int .u32 i.1,.int .u32 i.2.1,.int .u32 i.2.2],pre:=fun i=>i.1 < 4294967296∧i.2.1 < 4294967296∧i.2.2≤1,val:=fun i=>.tuple ⟨[.int .u32 ((i.1+i.2.1+i.2.2) % 4294967296:Nat),.int .u32 ((i.1+i.2.1+i.2.2) / 4294967296:Nat)]⟩ }
def lG:bC:={ ι:=Nat × Nat × Nat,args:=fun i=>[.int .u32 i.1,.int .u32 i.2.1,.int .u32 i.2.2],pre:=fun i=>i.1 < 4294967296∧i.2.1 < 4294967296∧i.2.2≤1,val:=fun i=>.tuple ⟨[.int .u32 ((i.1+2*4294967296 - i.2.1 - i.2.2) % 4294967296:Nat),.int .u32 (if i.1 < i.2.1+i.2.2 then 1 else 0:Nat)]⟩ }
def C8:bC:={ ι:=Nat × Nat × Nat,args:=fun i=>[.int .u32 i.1,.int .u32 i.2.1,.int .u32 i.2.2],pre:=fun i=>i.1 < i.2.2∧i.2.1 < 4294967296∧i.2.2 < 4294967296,val:=fun i=>.tuple ⟨[.int .u32 ((i.1*4294967296+i.2.1) / i.2.2:Nat),.int .u32 ((i.1*4294967296+i.2.1) % i.2.2:Nat)]⟩ }
def HA:bC:={ ι:=Nat,args:=fun x=>[.int .u32 x],pre:=fun x=>x < 4294967296,val:=fun x=>.int .i64 (fh x:Nat) }
def Dw:bC:={ ι:=Nat,args:=fun x=>[.int .u32 x],pre:=fun x=>x < 4294967296,val:=fun x=>.int .i64 (32 - fh x:Nat) }
def A1:Nat:=1099511627776
def kM:bC:={ ι:=ByteArray,args:=fun s=>[.string s],pre:=fun s=>s.size≤1099511627776,val:=fun s=>.string (nb (ab s)) }
abbrev LV:=Option (Nat × Nat × Nat)
def LV.val:LV→Value
 | none=>.slice none 0 0
 | some (n,_,c)=>.slice (some ⟨0,0,none⟩) n c
def LV.ah:LV→List ai
 | none=>[]
 | some (n,N,_)=>[.flat false n 1 (bn N)]
def LV.num:LV→Nat
 | none=>0
 | some (_,N,_)=>N
def LV.ok:LV→Prop
 | none=>True
 | some (n,N,_)=>N < 4294967296 ^ n∧n≤274877906944
def LV.cut:LV→Value
 | none=>.slice none 0 0
 | some (_,N,c)=>.slice (some ⟨0,0,none⟩) (nl N) c
def sV:cl:={ ι:=LV,args:=fun i=>[i.val],ah:=LV.ah,pre:=LV.ok,val:=LV.cut,new:=fun _=>none }
def zB:cl:={ ι:=LV,args:=fun i=>[i.val],ah:=LV.ah,pre:=LV.ok,val:=fun i=>.string (nb i.num),new:=fun _=>none }
def vh:cl:={ ι:=ByteArray,args:=fun s=>[.string s],ah:=fun _=>[],pre:=fun s=>s.size≤1099511627776,val:=fun s=>.slice (some ⟨0,0,none⟩) (nl (ab s)) aI,new:=fun s=>some (.flat false (nl (ab s)) 1 (bn (ab s))) }
def vi:cl:={ ι:=Bool × LV,args:=fun i=>[.bool i.1,i.2.val],ah:=fun i=>i.2.ah,pre:=fun i=>i.2.ok,val:=fun i=>.agg ⟨[.bool (i.1 && i.2.num != 0),.string (nb i.2.num)]⟩,new:=fun _=>none }
def two (A ca D cd:Nat):List Value:=[.slice (some ⟨0,0,none⟩) (nl A) ca,.slice (some ⟨1,0,none⟩) (nl D) cd]
def km (A D:Nat):List ai:=[.flat false (nl A) 1 (bn A),.flat false (nl D) 1 (bn D)]
abbrev I2:=Nat × Nat × Nat × Nat
def zC (i:I2):Prop:=nl i.1≤137438953472∧nl i.2.2.1≤137438953472
def cM (A D:Nat):Int:=if A < D then -1 else if D < A then 1 else 0
def xc:cl:={ ι:=I2,args:=fun i=>two i.1 i.2.1 i.2.2.1 i.2.2.2,ah:=fun i=>km i.1 i.2.2.1,pre:=zC,val:=fun i=>.int .i64 (cM i.1 i.2.2.1),new:=fun _=>none }
def kW (id N:Nat):Value:=.slice (some ⟨id,0,none⟩) (nl N) aI
def dT (N:Nat):ai:=.flat false (nl N) 1 (bn N)
def Dx:cl:={ ι:=I2,args:=fun i=>two i.1 i.2.1 i.2.2.1 i.2.2.2,ah:=fun i=>km i.1 i.2.2.1,pre:=zC,val:=fun i=>kW 2 (i.1+i.2.2.1),new:=fun i=>some (dT (i.1+i.2.2.1)) }
def C9:cl:={ ι:=I2,args:=fun i=>two i.1 i.2.1 i.2.2.1 i.2.2.2,ah:=fun i=>km i.1 i.2.2.1,pre:=fun i=>zC i∧i.2.2.1≤i.1,val:=fun i=>kW 2 (i.1 - i.2.2.1),new:=fun i=>some (dT (i.1 - i.2.2.1)) }
def Da:cl:={ ι:=I2,args:=fun i=>two i.1 i.2.1 i.2.2.1 i.2.2.2,ah:=fun i=>km i.1 i.2.2.1,pre:=zC,val:=fun i=>kW 2 (i.1*i.2.2.1),new:=fun i=>some (dT (i.1*i.2.2.1)) }
open Go
theorem LR {Y c P K a d x y t:Nat} (he:Y+c*P=a+d) (ht:t=c+x+y):Y+t % K*P+t / K*(P*K)=(a+x*P)+(d+y*P):=by
 have h:=Nat.mod_add_div t K;have e1:t*P=t % K*P+t / K*(P*K):=by
  calc t*P=(t % K+K*(t / K))*P:=by rw [h]
   _=t % K*P+t / K*(P*K):=by rw [Nat.add_mul,Nat.mul_comm K,Nat.mul_assoc,Nat.mul_comm K P]
 have e2:t*P=c*P+x*P+y*P:=by rw [ht,Nat.add_mul,Nat.add_mul]
 omega
theorem MJ {X D Y c i t:Nat} (he:Y+c*B ^ i=X % B ^ i+D % B ^ i) (ht:t=c+an X i+an D i) :
  Y+t % B*B ^ i+t / B*B ^ (i+1)=X % B ^ (i+1)+D % B ^ (i+1):=by
 rw [mod_succ X i,mod_succ D i,Nat.pow_succ];exact LR he ht
theorem wN {Y d i:Nat} (hY:Y < B ^ i) (hd:d < B):Y+d*B ^ i < B ^ (i+1):=by
 have h:(d+1)*B ^ i≤B*B ^ i:=Nat.mul_le_mul_right _ hd;rw [Nat.pow_succ,Nat.mul_comm (B ^ i) B];rw [Nat.add_mul] at h;omega
theorem WD {Y d i:Nat} (hY:Y < B ^ i) (hd:d < B) {r:Nat} (hr:r < i+1):an (Y+d*B ^ i) r=if r < i then an Y r else d:=by
 rw [← BF hY,Gq hd]
 split <;> split <;> first | rfl | omega
theorem CJ {Y d i:Nat} (hY:Y < B ^ i) (hd:d < B) {g:Nat→List Value} (hg:∀ r,r < i→g r=bn Y r) :
  ∀ r,r < i+1→iH g i (fun j=>[[Value.int .u32 (d:Nat)]].getD j []) r=bn (Y+d*B ^ i) r:=by
 intro r hr;have h:=WD hY hd hr;by_cases h1:r < i
 ·rw [ji h1,hg r h1];rw [if_pos h1] at h;simp [bn,h]
 ·rw [gw (by omega),show r - i=0 by omega]
  rw [if_neg h1] at h;simp [bn,h]
theorem Cn {a b:Nat} (ha:a < 4611686018427387904) (hb:b < 4611686018427387904):IntKind.u64.wrap ((a:Int)+IntKind.u64.wrap (b:Int))=((a+b:Nat):Int):=by
 rw [bK (x:=(b:Int)) (by omega) (by omega),bK (by omega) (by omega)]; omega
open Go
theorem LS {A d i t:Nat} (hd:0 < d) (ht:t=A / B ^ (i+1) % d*B+an A i) :
  A / B ^ i % d=t % d∧A / B ^ i / d=A / B ^ (i+1) / d*B+t / d:=by
 have h:=qi A i;have J:=Nat.mod_add_div (A / B ^ (i+1)) d;have e:A / B ^ i=t+d*(A / B ^ (i+1) / d*B):=by
  rw [h,ht];have:B*(A / B ^ (i+1))=B*(A / B ^ (i+1) % d)+d*(A / B ^ (i+1) / d*B):=by
   conv=>lhs; rw [← J]
   rw [Nat.mul_add,Nat.mul_comm (A / B ^ (i+1) / d) B,Nat.mul_left_comm]
  rw [this,Nat.mul_comm B (A / B ^ (i+1) % d)];omega
 constructor
 ·rw [e,Nat.add_mul_mod_self_left]
 ·rw [e,Nat.add_mul_div_left _ _ hd]; omega
theorem KY (K i:Nat):an (K*B ^ (i+1)) i=0:=by
 unfold an;rw [Nat.pow_succ,Nat.mul_comm (B ^ i),← Nat.mul_assoc,Nat.mul_div_cancel _ (eF i)];exact Nat.mul_mod_left _ _
theorem E4 {Y i d:Nat} (h:an Y i=0):cE Y i d=Y+d*B ^ i:=by
 have:=p7 Y i d;rw [h] at this;omega
theorem Vs {A d i t:Nat} (hd:0 < d) (ht:t=A / B ^ (i+1) % d*B+an A i):cE (A / B ^ (i+1) / d*B ^ (i+1)) i (t / d)=A / B ^ i / d*B ^ i:=by
 rw [E4 (KY _ _),(LS hd ht).2,Nat.pow_succ,Nat.add_mul,Nat.mul_assoc,Nat.mul_comm B]
theorem WE {A d i t:Nat} (hd:0 < d) (ht:t=A / B ^ (i+1) % d*B+an A i):t / d < B:=by
 have h1:=Nat.mod_lt (A / B ^ (i+1)) hd;have J:=cH A i;refine (Nat.div_lt_iff_lt_mul hd).2 ?_;have h3:(A / B ^ (i+1) % d+1)*B≤d*B:=Nat.mul_le_mul_right _ h1;rw [Nat.mul_comm d B] at h3;rw [Nat.add_mul] at h3;omega
theorem xd {s:Nat} (h:s≤31):2 ^ s≤2147483648:=Nat.le_trans (Nat.pow_le_pow_right (by decide) h) (by decide:2 ^ 31≤2147483648)
theorem X9 {s l:Nat} (hs:s≤31) (hl:l < B):IntKind.u64.wrap ((l:Int)*2 ^ min s IntKind.u64.bits)=((l*2 ^ s:Nat):Int):=by
 have h:=xd hs;have e:min s IntKind.u64.bits=s:=by show min s 64=s; omega
 rw [e];have J:l*2 ^ s≤4294967296*2147483648:=Nat.mul_le_mul (Nat.le_of_lt hl) h;have:((l*2 ^ s:Nat):Int)=(l:Int)*2 ^ s:=by simp
 rw [← this,bK (by omega) (by omega)]
theorem Oq {s l:Nat} (hs:s≤31):(l:Int).fdiv (2 ^ min s IntKind.u64.bits)=((l / 2 ^ s:Nat):Int):=by
 have e:min s IntKind.u64.bits=s:=by show min s 64=s; omega
 rw [e,sU];simp
theorem aaQ {u l s:Nat} (hs:s≤31) (hu:u < 2 ^ s):IntKind.u32.wrap ((BitVec.ofInt IntKind.u32.bits (u:Int) ||| BitVec.ofInt IntKind.u32.bits ((l*2 ^ s % B:Nat):Int)).toNat:Int)=((u+l*2 ^ s % B:Nat):Int):=by
 have h:=xd hs;have hv:l*2 ^ s % B < 4294967296:=Nat.mod_lt _ (by decide)
 have e:l*2 ^ s % B=(l % 2 ^ (32 - s))*2 ^ s:=by
  have:B=2 ^ (32 - s)*2 ^ s:=by rw [← Nat.pow_add,show 32 - s+s=32 by omega]
  rw [this,Nat.mul_mod_mul_right]
 have key:IntKind.u32.wrap ((BitVec.ofInt 32 (u:Int) ||| BitVec.ofInt 32 ((l*2 ^ s % B:Nat):Int)).toNat:Int)=((u+l*2 ^ s % B:Nat):Int):=by
  rw [F4,BitVec.toNat_or,toNat_ofInt32 _ (by omega),toNat_ofInt32 _ hv,e,Hz _ _ _ hu]
 exact key
theorem P4 {u l s:Nat} (hs:s≤31) (hu:u < 2 ^ s):u+l*2 ^ s % B < B:=by
 have h:=xd hs;have hv:l*2 ^ s % B < 2 ^ 32:=Nat.mod_lt _ (by decide)
 have e:l*2 ^ s % B=(l % 2 ^ (32 - s))*2 ^ s:=by
  have:B=2 ^ (32 - s)*2 ^ s:=by rw [← Nat.pow_add,show 32 - s+s=32 by omega]
  rw [this,Nat.mul_mod_mul_right]
 rw [e] at hv ⊢;rw [← Hz _ _ _ hu];exact Nat.or_lt_two_pow (n:=32) (Nat.lt_of_lt_of_le hu (by omega)) hv
theorem LU {A s i:Nat}:an (A % B ^ i*2 ^ s) i < 2 ^ s:=by
 refine Nat.lt_of_le_of_lt (Nat.mod_le _ _) ?_;refine (Nat.div_lt_iff_lt_mul (eF i)).2 ?_;rw [Nat.mul_comm];exact Nat.mul_lt_mul_of_pos_left (Nat.mod_lt _ (eF i)) (Nat.pow_pos (by decide))
theorem WG {A s i:Nat} (hs:s≤31):A % B ^ i*2 ^ s < B ^ (i+1):=by
 have h:=xd hs;rw [Nat.pow_succ];exact Nat.mul_lt_mul_of_lt_of_le (Nat.mod_lt _ (eF i)) (by show _≤4294967296; omega) (by decide)
theorem T8 {A s i:Nat} (hs:s≤31):cE (cE (A % B ^ i*2 ^ s) i (an (A % B ^ i*2 ^ s) i+an A i*2 ^ s % B)) (i+1) (an A i*2 ^ s / B)=A % B ^ (i+1)*2 ^ s:=by
 have al:=WG (A:=A) (i:=i) hs;have JW:=P4 (l:=an A i) hs (LU (A:=A) (s:=s) (i:=i));have h1:=p7 (A % B ^ i*2 ^ s) i (an (A % B ^ i*2 ^ s) i+an A i*2 ^ s % B);rw [Nat.add_mul] at h1;have e1:cE (A % B ^ i*2 ^ s) i (an (A % B ^ i*2 ^ s) i+an A i*2 ^ s % B)=A % B ^ i*2 ^ s+an A i*2 ^ s % B*B ^ i:=by omega
 have J:an (cE (A % B ^ i*2 ^ s) i (an (A % B ^ i*2 ^ s) i+an A i*2 ^ s % B)) (i+1)=0:=by
  rw [Gq JW,if_neg (by omega)]
  exact uz al (Nat.le_refl _)
 rw [E4 J,e1,mod_succ,Nat.add_mul,Nat.pow_succ];have h3:=Nat.mod_add_div (an A i*2 ^ s) B;have h4:an A i*B ^ i*2 ^ s=(an A i*2 ^ s % B+B*(an A i*2 ^ s / B))*B ^ i:=by rw [h3,Nat.mul_right_comm]
 rw [h4,Nat.add_mul,Nat.add_assoc]
 congr 1
 rw [Nat.mul_comm (B ^ i) B,← Nat.mul_assoc,Nat.mul_comm B (an A i*2 ^ s / B)]
theorem SW {A s i:Nat} (hs:s≤31):an (A / 2 ^ s) i=(an A i+an A (i+1)*B) / 2 ^ s % B:=by
 obtain ⟨w,hw⟩:∃ w,w=an A i+an A (i+1)*B:=⟨_,rfl⟩;have e:A / B ^ i=w+(B*B)*(A / B ^ (i+1+1)):=by
  rw [qi A i,qi A (i+1),Nat.mul_add,Nat.mul_comm B (an A (i+1)),Nat.mul_assoc,hw,← Nat.add_assoc]
 rw [← hw];show A / 2 ^ s / B ^ i % B=_
 rw [Nat.div_div_eq_div_mul,Nat.mul_comm (2 ^ s),← Nat.div_div_eq_div_mul,e];have hB:B=2 ^ s*2 ^ (32 - s):=by rw [← Nat.pow_add,show s+(32 - s)=32 by omega]
 have:B*B*(A / B ^ (i+1+1))=2 ^ s*(B*(2 ^ (32 - s)*(A / B ^ (i+1+1)))):=by
  conv=>lhs; rw [Nat.mul_assoc]; lhs; rw [hB]
  rw [Nat.mul_assoc,Nat.mul_left_comm (2 ^ (32 - s)) B]
 rw [this,Nat.add_mul_div_left _ _ (Nat.pow_pos (by decide)),Nat.add_mul_mod_self_left]
theorem WH {x y:Nat} (hx:x < 4294967296) (hy:y < 4294967296):IntKind.u64.wrap ((BitVec.ofInt IntKind.u64.bits (y:Int) ||| BitVec.ofInt IntKind.u64.bits ((x:Int)*4294967296)).toNat:Int)=((y+x*B:Nat):Int):=by
 rw [BitVec.or_comm,dA x y hx hy];show _=(((y+x*4294967296:Nat)):Int)
 omega
theorem Vt {W D P q:Nat} (hD:0 < D) (hP:0 < P) (h:W / P < q*(D / P)):W / D < q:=by
 refine (Nat.div_lt_iff_lt_mul hD).2 ?_;have h1:W < (W / P+1)*P:=by
  rw [Nat.mul_comm]; exact Nat.lt_mul_div_succ W hP
 have J:(W / P+1)*P≤q*(D / P)*P:=Nat.mul_le_mul_right _ h;have h3:q*(D / P)*P≤q*D:=by
  rw [Nat.mul_assoc]; exact Nat.mul_le_mul_left _ (Nat.div_mul_le_self _ _)
 omega
theorem T9 {W D P q K:Nat} (hP:0 < P) (h:q*(D / P)≤W / P) (hq:q≤K) (hK:K*P≤D):q≤W / D+1:=by
 rcases Nat.eq_zero_or_pos q with h0 | h0
 ·rw [h0]; exact Nat.zero_le _
 by_cases hD:D=0
 ·have hK0:K*P=0:=by omega
  rcases Nat.mul_eq_zero.1 hK0 with h | h <;> omega
 have h1:D < (D / P+1)*P:=by
  rw [Nat.mul_comm]; exact Nat.lt_mul_div_succ D hP
 have J:q*D < q*((D / P+1)*P):=Nat.mul_lt_mul_of_pos_left h1 h0;have e2:q*((D / P+1)*P)=q*(D / P)*P+q*P:=by rw [Nat.add_mul,Nat.mul_add,Nat.one_mul,Nat.mul_assoc]
 have h3:q*(D / P)*P≤W / P*P:=Nat.mul_le_mul_right _ h;have h4:W / P*P≤W:=Nat.div_mul_le_self _ _;have h5:q*P≤K*P:=Nat.mul_le_mul_right _ hq;have h6:q*D < W+D:=by omega
 have h7:(q - 1)*D≤W:=by
  rw [Nat.sub_mul,Nat.one_mul]; omega
 have:=(Nat.le_div_iff_mul_le (by omega:0 < D)).2 h7
 omega
theorem Gs (X j k:Nat):an (X / B ^ j) k=an X (j+k):=by
 unfold an;rw [Nat.div_div_eq_div_mul,← Nat.pow_add]
theorem zm {W k:Nat} (h:W < B ^ (k+1)):an W k=W / B ^ k:=by
 unfold an;refine Nat.mod_eq_of_lt ((Nat.div_lt_iff_lt_mul (eF k)).2 ?_);rw [Nat.mul_comm,← Nat.pow_succ]; exact h
theorem ae3 {W k:Nat} (h:W < B ^ (k+2)):W / B ^ k=an W (k+1)*B+an W k:=by
 rw [qi W k,← zm h,Nat.mul_comm,Nat.add_comm]
theorem Nw {q d1 d0 r w0 K top:Nat} (he:q*d1+r=top):(q*(d1*K+d0)≤top*K+w0↔q*d0≤r*K+w0):=by
 have e:top*K=q*(d1*K)+r*K:=by rw [← he,Nat.add_mul,Nat.mul_assoc]
 rw [Nat.mul_add,e];omega
theorem LW {Z Z' v P l d t low c' c b b' x q X v' K:Nat} (he:Z+v=X+(b+c)*P) (hs:Z'+l*P=Z+d*P) (ht:t=c+q*x) (rI:t=low+K*c') (hd:l+b'*K=low+b+d) (hv:v'=v+q*x*P) :
  Z'+v'=X+(b'+c')*(P*K):=by
 have e1:t*P=c*P+q*x*P:=by rw [ht,Nat.add_mul]
 have e2:t*P=low*P+c'*(P*K):=by rw [rI,Nat.add_mul,Nat.mul_comm K,Nat.mul_assoc,Nat.mul_comm K P]
 have e3:l*P+b'*(P*K)=low*P+b*P+d*P:=by
  have:=congrArg (·*P) hd;simp only [Nat.add_mul] at this;rw [Nat.mul_assoc b' K P,Nat.mul_comm K P] at this;exact this
 rw [Nat.add_mul] at he ⊢;omega
theorem BZ {X Z D q c b b' i j t d:Nat} (he:Z+q*(D % B ^ i)*B ^ j=X+(b+c)*B ^ (j+i)) (ht:t=c+q*an D i) (hd:an Z (j+i)+b'*B=t % B+b+d) :
  cE Z (j+i) d+q*(D % B ^ (i+1))*B ^ j=X+(b'+t / B)*B ^ (j+(i+1)):=by
 have ep:B ^ (j+(i+1))=B ^ (j+i)*B:=rfl;rw [ep];refine LW he (p7 Z (j+i) d) ht (Nat.mod_add_div t B).symm hd ?_;rw [mod_succ,Nat.mul_add,Nat.add_mul,Nat.pow_add,← Nat.mul_assoc q (an D i),Nat.mul_comm (B ^ j) (B ^ i),Nat.mul_assoc (q*an D i)]
theorem B0 {X Z D q c b b' n j d:Nat} (hD:D < B ^ n) (hc:c < B) (he:Z+q*(D % B ^ n)*B ^ j=X+(b+c)*B ^ (j+n)) (hd:an Z (j+n)+b'*B=c+b+d) :
  cE Z (j+n) d+q*(D*B ^ j)=X+b'*B ^ (j+n+1):=by
 rw [Nat.mod_eq_of_lt hD] at he;have:=LW (K:=B) (x:=0) (t:=c) (c':=0) (low:=c) (q:=q) (v':=q*D*B ^ j) he (p7 Z (j+n) d) (by omega) (by omega) hd (by omega)
 rw [← Nat.mul_assoc,this,Nat.pow_succ]
 rfl
theorem Ua {Z Z' v P l c x t Y v' K:Nat} (he:Z+c*P=Y+v) (hs:Z'+l*P=Z+t % K*P) (ht:t=l+x+c) (hv:v'=v+x*P):Z'+t / K*(P*K)=Y+v':=by
 have h:=Nat.mod_add_div t K;have e1:t*P=t % K*P+t / K*(P*K):=by
  calc t*P=(t % K+K*(t / K))*P:=by rw [h]
   _=t % K*P+t / K*(P*K):=by rw [Nat.add_mul,Nat.mul_comm K,Nat.mul_assoc,Nat.mul_comm K P]
 have e2:t*P=l*P+x*P+c*P:=by rw [ht,Nat.add_mul,Nat.add_mul]
 omega
theorem B5 {Y Z D c i j t:Nat} (he:Z+c*B ^ (j+i)=Y+D % B ^ i*B ^ j) (ht:t=an Z (j+i)+an D i+c) :
  cE Z (j+i) (t % B)+t / B*B ^ (j+(i+1))=Y+D % B ^ (i+1)*B ^ j:=by
 have ep:B ^ (j+(i+1))=B ^ (j+i)*B:=rfl;rw [ep];refine Ua he (p7 Z (j+i) (t % B)) ht ?_;rw [mod_succ,Nat.add_mul,Nat.pow_add,Nat.mul_comm (B ^ j),Nat.mul_assoc]
theorem BG {X Z E q:Nat} (hE:0 < E) (h:Z+q*E=X) (hq:X / E≤q):q=X / E∧Z=X % E:=by
 have h1:q≤X / E:=(Nat.le_div_iff_mul_le hE).2 (by omega)
 have J:q=X / E:=by omega
 refine ⟨J,?_⟩;have:=Nat.mod_add_div X E;rw [J,Nat.mul_comm] at h;omega
theorem BH {X Z E q M:Nat} (hE:0 < E) (h:Z+q*E=X+M) (hZ:Z < M) (hq:q≤X / E+1):q=X / E+1∧Z+E=X % E+M:=by
 have h1:X < q*E:=by omega
 have J:X / E < q:=(Nat.div_lt_iff_lt_mul hE).2 h1;have h3:q=X / E+1:=by omega
 refine ⟨h3,?_⟩;have:=Nat.mod_add_div X E;rw [h3,Nat.add_mul,Nat.one_mul,Nat.mul_comm] at h;omega
theorem B6 {V R c k:Nat} (hV:V < B ^ (k+1)) (hR:R < B ^ k) (hc:c≤1) (h:V+c*B ^ k=R+B ^ (k+1)):cE V k ((an V k+c) % B)=R:=by
 have rG:c=1:=by
  rcases Nat.eq_zero_or_pos c with h0 | h0
  ·subst h0; omega
  ·omega
 subst rG;have e:V=R+(B - 1)*B ^ k:=by
  rw [Nat.pow_succ,Nat.mul_comm (B ^ k) B] at h;rw [Nat.sub_mul];have:1*B ^ k≤B*B ^ k:=Nat.mul_le_mul_right _ (by decide)
  omega
 have e2:an V k=B - 1:=by
  rw [zm hV,e,Nat.add_mul_div_right _ _ (eF k),Nat.div_eq_of_lt hR,Nat.zero_add]
 have J:=p7 V k ((an V k+1) % B);have e3:(B - 1+1) % B=0:=by decide
 rw [e2,e3] at J;rw [e2,e3];omega
theorem Tp {X D j n n1 n2:Nat} (J:n2=nl D) (h0:n2=n+2) (h1:n1=n+1) (hd:2147483648≤an D n1) (hX:X < D*B ^ (j+1)) :
  X / B ^ j / B ^ n=(an X (j+n2)*B+an X (j+n1))*B+an X (j+n)∧D / B ^ n=an D n1*B+an D n∧X / B ^ j / D < B∧B*B ^ n≤D ∧
  X / B ^ j / D≤(an X (j+n2)*B+an X (j+n1)) / an D n1∧(an X (j+n2)*B+an X (j+n1)) / an D n1≤B+1∧X < B ^ (j+n2+1):=by
 subst h1;have hD:D < B ^ (n+2):=by have:=bV D; rw [← J,h0] at this; exact this
 have EF:=zm (W:=D) (k:=n+1) hD;have yB:0 < D:=by
  rcases Nat.eq_zero_or_pos D with h | h
  ·subst h; rw [F2] at hd; omega
  ·exact h
 have hW:X / B ^ j < D*B:=by
  refine (Nat.div_lt_iff_lt_mul (eF j)).2 ?_;rw [Nat.mul_assoc,Nat.mul_comm B,← Nat.pow_succ]; exact hX
 have hW3:X / B ^ j < B ^ (n+1+2):=by
  have e:B ^ (n+1+2)=B ^ (n+2)*B:=rfl;rw [e];exact Nat.lt_of_lt_of_le hW (Nat.mul_le_mul_right _ (Nat.le_of_lt hD))
 have ht:=ae3 hW3;rw [Gs,Gs] at ht;have rI:X / B ^ j / B ^ (n+1)=an X (j+n2)*B+an X (j+(n+1)):=by rw [h0]; exact ht
 obtain ⟨top,vz⟩:∃ top,top=an X (j+n2)*B+an X (j+(n+1)):=⟨_,rfl⟩;rw [← vz] at rI ⊢;have hw:=qi (X / B ^ j) n;rw [rI,Gs] at hw;have dh:=qi D n;rw [← EF] at dh;obtain ⟨W,hWd⟩:∃ W,W=X / B ^ j:=⟨_,rfl⟩;obtain ⟨d1,c8⟩:∃ d1,d1=an D (n+1):=⟨_,rfl⟩;rw [← hWd] at hw rI hW ⊢;rw [← c8] at dh hd EF ⊢;have AK:d1*B ^ (n+1)≤D:=by rw [EF]; exact Nat.div_mul_le_self _ _
 have dM:D < (d1+1)*B ^ (n+1):=by rw [EF,Nat.mul_comm]; exact Nat.lt_mul_div_succ _ (eF _)
 refine ⟨?_,?_,?_,?_,?_,?_,?_⟩
 ·rw [hw,Nat.mul_comm B top,Nat.add_comm]
 ·rw [dh,Nat.mul_comm B d1,Nat.add_comm]
 ·exact (Nat.div_lt_iff_lt_mul yB).2 (by rw [Nat.mul_comm]; exact hW)
 ·have e:B*B ^ n=1*B ^ (n+1):=by rw [Nat.pow_succ,Nat.mul_comm,Nat.one_mul]
  rw [e];exact Nat.le_trans (Nat.mul_le_mul_right _ (by omega)) AK
 ·refine (Nat.le_div_iff_mul_le (by omega)).2 ?_
  rw [← rI];refine (Nat.le_div_iff_mul_le (eF _)).2 ?_;rw [Nat.mul_assoc];exact Nat.le_trans (Nat.mul_le_mul_left _ AK) (Nat.div_mul_le_self _ _)
 ·have h5:top < (d1+1)*B:=by
   rw [← rI];refine (Nat.div_lt_iff_lt_mul (eF _)).2 ?_;have:D*B≤(d1+1)*B ^ (n+1)*B:=Nat.mul_le_mul_right _ (Nat.le_of_lt dM);rw [Nat.mul_right_comm] at this;exact Nat.lt_of_lt_of_le hW this
  have h6:top / d1 < B+2:=by
   refine (Nat.div_lt_iff_lt_mul (by omega)).2 ?_
   rw [Nat.add_mul,Nat.mul_comm B d1];rw [Nat.add_mul] at h5;have:B=4294967296:=rfl;omega
  omega
 ·have e:B ^ (j+n2+1)=B ^ (n+2)*B ^ (j+1):=by rw [← Nat.pow_add]; congr 1; omega
  rw [e];exact Nat.lt_of_lt_of_le hX (Nat.mul_le_mul_right _ (Nat.le_of_lt hD))
structure aaR (X D j n n2 top d1 d0 w0 Q q0:Nat):Prop where
 fW:X / B ^ j / B ^ n=top*B+w0
 fD:D / B ^ n=d1*B+d0
 fQ:Q=X / B ^ j / D
 fB:Q < 4294967296
 fP:B*B ^ n≤D
 fq:Q≤q0
 RM:q0≤4294967297
 fX:X < B ^ (j+n2+1)
 A2:0 < D
theorem aaS {X D j n n1 n2 top d1 d0 w0 Q q0:Nat} (J:n2=nl D) (h0:n2=n+2) (h1:n1=n+1) (hd:2147483648≤an D n1) (hX:X < D*B ^ (j+1))
  (ht:top=an X (j+n2)*4294967296+an X (j+n1)) (c8:d1=an D n1) (fE:d0=an D n) (hw:w0=an X (j+n)) (hQ:Q=X / B ^ j / D) (v7:q0=top / d1):aaR X D j n n2 top d1 d0 w0 Q q0:=by
 have yB:0 < D:=by
  rcases Nat.eq_zero_or_pos D with h | h
  ·rw [h,F2] at hd; omega
  ·exact h
 subst ht c8 fE hw hQ v7;obtain ⟨a,b,c,d,e,f,g⟩:=Tp J h0 h1 hd hX;exact ⟨a,b,rfl,c,d,e,f,g,yB⟩
theorem WI {W D P d1 d0 q r w0 top:Nat} (hD:0 < D) (hP:0 < P) (hW:W / P=top*B+w0) (JX:D / P=d1*B+d0) (he:q*d1+r=top) (h:r*B+w0 < q*d0):W / D < q:=by
 refine Vt hD hP ?_;rw [hW,JX];exact Nat.lt_of_not_le fun hle=>Nat.not_le_of_lt h ((Nw he).1 hle)
theorem G1 {W D P d1 d0 q r w0 top:Nat} (hP:0 < P) (hW:W / P=top*B+w0) (JX:D / P=d1*B+d0) (he:q*d1+r=top) (hq:q < B) (hK:B*P≤D) (fE:d0 < B) (h:B≤r∨q*d0≤r*B+w0):q≤W / D+1:=by
 refine T9 hP ?_ (Nat.le_of_lt hq) hK;rw [hW,JX];refine (Nw he).2 ?_;rcases h with h | h
 ·have h1:q*d0≤B*B:=Nat.mul_le_mul (Nat.le_of_lt hq) (Nat.le_of_lt fE);have J:B*B≤r*B:=Nat.mul_le_mul_right _ h;omega
 ·exact h
theorem Gt (a b:Nat):Int.tdiv (a:Int) (b:Int)=((a / b:Nat):Int):=rfl
theorem Nx (a b:Nat):Int.tmod (a:Int) (b:Int)=((a % b:Nat):Int):=rfl
theorem adt {q x:Nat} (hq:q≤4294967297) (hx:x < 4294967296):IntKind.u64.wrap ((q:Int)*(x:Int))=((q*x:Nat):Int)∧q*x < 18446744073709551616:=by
 have h:=Nat.mul_le_mul hq (show x≤4294967295 by omega)
 have e:((q:Int)*(x:Int))=((q*x:Nat):Int):=by simp
 obtain ⟨p,hp⟩:∃ p,p=q*x:=⟨_,rfl⟩;rw [e,← hp];rw [← hp] at h;exact ⟨bK (by omega) (by omega),by omega⟩
theorem Co {c q x t:Nat} (hc:c < B) (hq:q < B) (hx:x < B) (ht:t=c+q*x):IntKind.u64.wrap ((c:Int)+IntKind.u64.wrap ((q:Int)*(x:Int)))=(t:Int)∧t / B < B:=by
 have hB:B=4294967296:=rfl;have h:=Nat.mul_le_mul (show q≤4294967295 by omega) (show x≤4294967295 by omega)
 have e:((q:Int)*(x:Int))=((q*x:Nat):Int):=by simp
 obtain ⟨p,hp⟩:∃ p,p=q*x:=⟨_,rfl⟩;rw [e,← hp];rw [← hp] at h ht;constructor
 ·rw [bK (x:=(p:Int)) (by omega) (by omega),bK (by omega) (by omega),ht]; omega
 ·refine (Nat.div_lt_iff_lt_mul (by decide)).2 ?_
  rw [hB,ht]; omega
open Go
def one (A ca:Nat):Value:=.slice (some ⟨0,0,none⟩) (nl A) ca
abbrev I1:=Nat × Nat × Nat
def Db:cl:={ ι:=I1,args:=fun i=>[one i.1 i.2.1,.int .u32 i.2.2],ah:=fun i=>[dT i.1],pre:=fun i=>nl i.1≤137438953472∧0 < i.2.2∧i.2.2 < 4294967296,val:=fun i=>.tuple ⟨[kW 1 (i.1 / i.2.2),.int .u32 (i.1 % i.2.2:Nat)]⟩,new:=fun i=>some (.flat true (nl i.1) 1 (bn (i.1 / i.2.2))) }
def Dc:cl:={ ι:=I1,args:=fun i=>[one i.1 i.2.1,.int .i64 i.2.2],ah:=fun i=>[dT i.1],pre:=fun i=>nl i.1≤137438953472∧i.2.2≤31,val:=fun i=>.slice (some ⟨1,0,none⟩) (nl i.1+1) (nl i.1+1),new:=fun i=>some (.flat true (nl i.1+1) 1 (bn (i.1*2 ^ i.2.2))) }
def Cp:cl:={ ι:=I1,args:=fun i=>[one i.1 i.2.1,.int .i64 i.2.2],ah:=fun i=>[dT i.1],pre:=fun i=>nl i.1≤137438953472∧i.2.2≤31,val:=fun i=>kW 1 (i.1 / 2 ^ i.2.2),new:=fun i=>some (.flat true (nl i.1) 1 (bn (i.1 / 2 ^ i.2.2))) }
structure DI where
 (X m cx D cd j:Nat)
def xK:z5:={ ι:=DI,args:=fun i=>[.slice (some ⟨0,0,none⟩) i.m i.cx,.slice (some ⟨1,0,none⟩) (nl i.D) i.cd,.int .i64 i.j],ah:=fun i=>[.flat true i.m 1 (bn i.X),dT i.D],pre:=fun i=>i.m≤137438953473∧2≤nl i.D∧2147483648≤an i.D (nl i.D - 1)∧i.j+nl i.D < i.m∧i.X < i.D*B ^ (i.j+1),val:=fun i=>.int .u32 (i.X / (i.D*B ^ i.j):Nat),post:=fun i=>[.flat true i.m 1 (bn (i.X % (i.D*B ^ i.j))),dT i.D],new:=fun _=>[] }
theorem rZ {i:DI} {N q:Nat} {H:ay} (h1:N=i.X % (i.D*B ^ i.j)) (J:q=i.X / (i.D*B ^ i.j)) (hH:H[0]?=some (some (.flat true i.m 1 (bn N)))):An xK i (.int .u32 (q:Nat)) H:=by
 refine ⟨[],List.nodup_nil,by simp,rfl,fun j b q' hb hq ho=>?_,by simp,_,rfl,by subst J; exact .refl _⟩
 match j with
 | 0 =>
  simp [xK] at hb hq;subst hq;exact ⟨_,hH,rfl,by rw [h1]; exact ⟨fun _=>⟨rfl,rfl⟩,rfl,Nat.le_refl _,fun _ _=>rfl,fun r hr v hv=>dI (l:=bn _ r) rfl v hv⟩⟩
 | 1 =>
  simp [xK] at hb;subst hb;cases ho
 | j+2=>simp [xK] at hb
def gH:z5:={ ι:=I2,args:=fun i=>two i.1 i.2.1 i.2.2.1 i.2.2.2,ah:=fun i=>km i.1 i.2.2.1,pre:=fun i=>zC i∧i.2.2.1≠0,val:=fun i=>if i.1 < i.2.2.1 then .tuple ⟨[.slice none 0 0,one i.1 i.2.1]⟩ else .tuple ⟨[kW 2 (i.1 / i.2.2.1),kW 3 (i.1 % i.2.2.1)]⟩,post:=fun i=>km i.1 i.2.2.1,new:=fun i=>if i.1 < i.2.2.1 then [] else [dT (i.1 / i.2.2.1),dT (i.1 % i.2.2.1)] }
open Go
theorem Ub {D n s:Nat} (hn:nl D=n+1) (hs:s=32 - fh (an D n)) :
  s≤31∧an D n≠0∧nl (D*2 ^ s)=n+1∧2147483648≤an (D*2 ^ s) n∧2147483648*B ^ n≤D*2 ^ s:=by
 have yB:D≠0:=by intro h; rw [h,sG] at hn; omega
 have vz:an D n≠0:=by have:=Wv yB; rw [hn] at this; exact this
 obtain ⟨x,hx⟩:∃ x,x=an D n:=⟨_,rfl⟩;rw [← hx] at hs vz ⊢;have iD:x < 4294967296:=by rw [hx]; exact cH D n
 have hb:=Nv iD;have AK:1≤fh x:=by
  rcases Nat.eq_zero_or_pos (fh x) with h | h
  ·have:=G0 x; rw [h] at this; omega
  ·exact h
 have al:=bV D;rw [hn] at al;have RN:x=D / B ^ n:=by rw [hx]; exact zm al
 have h1:=KE vz;have J:=G0 x;have e:2 ^ (fh x)*2 ^ s=4294967296:=by rw [← Nat.pow_add,show fh x+s=32 by omega]
 have e2:2 ^ (fh x - 1)*2 ^ s=2147483648:=by rw [← Nat.pow_add,show fh x - 1+s=31 by omega]
 have g9:2147483648*B ^ n≤D*2 ^ s:=by
  rw [← e2,Nat.mul_right_comm];refine Nat.mul_le_mul_right _ ?_;refine Nat.le_trans (Nat.mul_le_mul_right _ h1) ?_;rw [RN]; exact Nat.div_mul_le_self _ _
 have jy:D*2 ^ s < B ^ (n+1):=by
  have h3:D < (x+1)*B ^ n:=by rw [RN,Nat.mul_comm]; exact Nat.lt_mul_div_succ _ (eF n)
  have h4:D*2 ^ s < (x+1)*B ^ n*2 ^ s:=Nat.mul_lt_mul_of_pos_right h3 (Nat.pow_pos (by decide))
  have h5:(x+1)*B ^ n*2 ^ s≤2 ^ fh x*B ^ n*2 ^ s:=Nat.mul_le_mul_right _ (Nat.mul_le_mul_right _ J);rw [Nat.mul_right_comm (2 ^ fh x),e] at h5;have e3:B ^ (n+1)=4294967296*B ^ n:=by rw [Nat.pow_succ,Nat.mul_comm]
  rw [e3];exact Nat.lt_of_lt_of_le h4 h5
 have ck:nl (D*2 ^ s)=n+1:=by
  refine Pe jy (.inr ?_);rw [Nat.add_sub_cancel];refine Nat.le_trans ?_ g9;exact Nat.le_mul_of_pos_left _ (by decide)
 refine ⟨by omega,vz,ck,?_,g9⟩
 rw [zm jy];exact (Nat.le_div_iff_mul_le (eF n)).2 g9
theorem Tq {A s:Nat} (hs:s≤31):A*2 ^ s < B ^ (nl A)*2147483648:=by
 have h:=xd hs;exact Nat.mul_lt_mul_of_lt_of_le (bV A) h (by decide)
theorem Vu {A E n s k:Nat} (hs:s≤31) (g9:2147483648*B ^ n≤E) (hk:k=nl A - n) (hle:n≤nl A):A*2 ^ s < E*B ^ k:=by
 refine Nat.lt_of_lt_of_le (Tq hs) ?_;have e:B ^ nl A*2147483648=2147483648*B ^ n*B ^ k:=by
  rw [Nat.mul_assoc,← Nat.pow_add,show n+k=nl A by omega,Nat.mul_comm]
 rw [e];exact Nat.mul_le_mul_right _ g9
theorem Vv {V E Q U i:Nat} (hE:0 < E) (h:Q*E+U=V) (hU:U < E*B ^ (i+1)) (hQ:Q % B ^ (i+1)=0) :
  U / (E*B ^ i) < B∧cE Q i (U / (E*B ^ i))*E+U % (E*B ^ i)=V∧U % (E*B ^ i) < E*B ^ i∧cE Q i (U / (E*B ^ i)) % B ^ i=0:=by
 have hP:0 < E*B ^ i:=Nat.mul_pos hE (eF i);have hd:U / (E*B ^ i) < B:=by
  refine (Nat.div_lt_iff_lt_mul hP).2 ?_;rw [Nat.mul_comm,Nat.mul_assoc,← Nat.pow_succ]; exact hU
 obtain ⟨K,hK⟩:∃ K,Q=K*B ^ (i+1):=⟨Q / B ^ (i+1),by rw [Nat.mul_comm]; have:=Nat.mod_add_div Q (B ^ (i+1)); rw [hQ,Nat.zero_add] at this; exact this.symm⟩
 have hl:an Q i=0:=by rw [hK]; exact KY K i
 rw [E4 hl];refine ⟨hd,?_,Nat.mod_lt _ hP,?_⟩
 ·rw [Nat.add_mul,← h,Nat.add_assoc]
  congr 1
  rw [Nat.mul_assoc,Nat.mul_comm (B ^ i) E,Nat.mul_comm];exact Nat.div_add_mod U (E*B ^ i)
 ·rw [hK,Nat.pow_succ,Nat.mul_comm (B ^ i) B,← Nat.mul_assoc,← Nat.add_mul];exact Nat.mul_mod_left _ _
theorem WJ {A D s Q U:Nat} (hD:0 < D) (h:Q*(D*2 ^ s)+U=A*2 ^ s) (hU:U < D*2 ^ s):Q=A / D∧U=A % D*2 ^ s∧U / 2 ^ s=A % D:=by
 have hs:0 < 2 ^ s:=Nat.pow_pos (by decide)
 have hE:0 < D*2 ^ s:=Nat.mul_pos hD hs;have h1:A*2 ^ s / (D*2 ^ s)=Q:=by
  rw [← h,Nat.mul_comm Q];rw [Nat.mul_add_div hE,Nat.div_eq_of_lt hU,Nat.add_zero]
 have J:A*2 ^ s % (D*2 ^ s)=U:=by
  rw [← h,Nat.mul_comm Q,Nat.mul_add_mod,Nat.mod_eq_of_lt hU]
 rw [Nat.mul_div_mul_right _ _ hs] at h1;rw [Nat.mul_mod_mul_right] at J;refine ⟨h1.symm,J.symm,?_⟩;rw [← J,Nat.mul_div_cancel _ hs]
theorem Uc {N:Nat} (h:N < 4294967296):an N 0=N:=by
 unfold an;rw [Nat.pow_zero,Nat.div_one]; exact Nat.mod_eq_of_lt h
theorem aaT {D:Nat} (h:nl D=1):an D 0=D∧D < 4294967296∧0 < D:=by
 have h1:=bV D;rw [h,Nat.pow_one] at h1;have h0:D≠0:=by intro e; rw [e,sG] at h; omega
 refine ⟨?_,h1,by omega⟩
 unfold an;rw [Nat.pow_zero,Nat.div_one]; exact Nat.mod_eq_of_lt h1
theorem Vw {A ca D cd:Nat} {H:ay} (h:A < D):An gH (A,ca,D,cd) (.tuple ⟨[.slice none 0 0,.slice (some ⟨0,0,none⟩) (nl A) ca]⟩) H:=by
 have e1:gH.val (A,ca,D,cd)=.tuple ⟨[.slice none 0 0,one A ca]⟩:=if_pos h;have e2:gH.new (A,ca,D,cd)=[]:=if_pos h;refine ⟨[],List.nodup_nil,by simp,by rw [e2]; rfl,fun j b q' hb hq ho=>?_,fun j p b hp=>by simp at hp,_,by rw [e1]; rfl,.refl _⟩
 match j with
 | 0=>simp [gH,km] at hb; subst hb; cases ho
 | 1=>simp [gH,km] at hb; subst hb; cases ho
 | j+2=>simp [gH,km] at hb
theorem MK {A ca D cd q r c1 c2:Nat} {H:ay} {b1 b2:ai} (h:D≤A) (hq:2≤q) (hr:2≤r) (JY:q≠r)
  (h1:H[q]?=some (some b1)) (J:H[r]?=some (some b2)) (o1:b1.own=true) (o2:b2.own=true) (l1:aH (dT (A / D)) b1) (l2:aH (dT (A % D)) b2) :
  An gH (A,ca,D,cd) (.tuple ⟨[.slice (some ⟨q,0,none⟩) (nl (A / D)) c1,.slice (some ⟨r,0,none⟩) (nl (A % D)) c2]⟩) H:=by
 have hn:¬ A < D:=by omega
 have e1:gH.val (A,ca,D,cd)=.tuple ⟨[kW 2 (A / D),kW 3 (A % D)]⟩:=if_neg hn;have e2:gH.new (A,ca,D,cd)=[dT (A / D),dT (A % D)]:=if_neg hn;refine ⟨[q,r],by simp [JY],fun p hp=>?_,by rw [e2]; rfl,fun j b q' hb hq ho=>?_,fun j p b hp hb=>?_,_,by rw [e1]; rfl,.two (.cap _ _ _ rfl) (.cap _ _ _ rfl)⟩
 ·simp at hp;show 2≤p
  omega
 ·match j with
  | 0=>simp [gH,km] at hb; subst hb; cases ho
  | 1=>simp [gH,km] at hb; subst hb; cases ho
  | j+2=>simp [gH,km] at hb
 ·rw [e2] at hb
  match j with
  | 0=>simp at hp hb; subst hp hb; exact ⟨b1,h1,o1,l1⟩
  | 1=>simp at hp hb; subst hp hb; exact ⟨b2,J,o2,l2⟩
  | j+2=>simp at hb
theorem ML {x n:Nat} (hx:x < 4294967296) (hn:n≤1):aH (.flat false n 1 (bn x)) (.aP true 1 [[.int .u32 (x:Nat)]]):=by
 refine ⟨(fun h=>by cases h),rfl,hn,fun r hr=>?_,fun r hr v hv=>dI (l:=bn x r) rfl v hv⟩
 have h0:r=0:=by
  have:r < n:=hr;omega
 subst h0;show [Value.int .u32 (an x 0:Nat)]=[Value.int .u32 (x:Nat)]
 rw [Uc hx]
open Go
def a9 (b:Bool) (N:Nat):Int:=if b then -(N:Int) else N
def lS (b:Bool) (N:Nat):Value:=.agg ⟨[.bool (b && N != 0),.string (nb N)]⟩
def aG (z:Int):Value:=.agg ⟨[.bool (decide (z < 0)),.string (nb z.natAbs)]⟩
theorem jl (b:Bool) (N:Nat):lS b N=aG (a9 b N):=by
 unfold lS aG a9;cases b
 ·simp
 ·by_cases h:N=0
  ·subst h; simp
  ·have e:(N != 0)=true:=by simp [h]
   simp [e];omega
theorem WK (b c:Bool) (M N:Nat):a9 (b != c) (M*N)=a9 b M*a9 c N:=by
 cases b <;> cases c <;> simp [a9,Int.neg_mul,Int.mul_neg]
theorem Gu (b:Bool) (N:Nat):a9 (!b) N=-a9 b N:=by cases b <;> simp [a9]
theorem MM (b:Bool) (M N:Nat):a9 b (M+N)=a9 b M+a9 b N:=by cases b <;> simp [a9] <;> omega
theorem B7 {b c:Bool} (h:b≠c) {M N:Nat} (hle:N≤M):a9 b (M - N)=a9 b M+a9 c N:=by
 cases b <;> cases c <;> simp [a9] at h ⊢ <;> omega
theorem uA (b:Bool) (N:Nat):(a9 b N).natAbs=N:=by cases b <;> simp [a9]
theorem F5 {b:Bool} {N:Nat}:a9 b N=0↔N=0:=by cases b <;> simp [a9]
def dU (x y:Int):Int:=if x < y then -1 else if y < x then 1 else 0
theorem Cq (M N:Nat):dU (M:Int) (N:Int)=cM M N:=by
 unfold dU cM
 split <;> split <;> (try split) <;> (try split) <;> omega
theorem Ny (M N:Nat):dU (-(M:Int)) (-(N:Int))=cM N M:=by
 unfold dU cM
 split <;> split <;> (try split) <;> (try split) <;> omega
theorem Vx (A D:Nat):nl (A*D)≤nl A+nl D:=jO (by
 rw [Nat.pow_add];exact Nat.mul_lt_mul_of_lt_of_le (bV A) (Nat.le_of_lt (bV D)) (eF _))
theorem MN (A D:Nat):nl (A+D)≤max (nl A) (nl D)+1:=jO (by
 have h1:=Nat.lt_of_lt_of_le (bV A) (Nat.pow_le_pow_right (show 0 < B by decide) (Nat.le_max_left (nl A) (nl D)))
 have J:=Nat.lt_of_lt_of_le (bV D) (Nat.pow_le_pow_right (show 0 < B by decide) (Nat.le_max_right (nl A) (nl D)))
 have e:B ^ (max (nl A) (nl D)+1)=B ^ (max (nl A) (nl D))*4294967296:=rfl;rw [e];generalize B ^ (max (nl A) (nl D))=K at *;omega)
theorem Pg {N:Nat} (h:N < 18446744073709551616):N < 4294967296 ^ 2:=Nat.lt_of_lt_of_le h (by decide)
theorem Nz {N:Nat} (h:N < 18446744073709551616):an N 0=N % 4294967296∧an N 1=N / 4294967296:=by
 unfold an;rw [Nat.pow_zero,Nat.div_one,Nat.pow_one];exact ⟨rfl,Nat.mod_eq_of_lt (show N / 4294967296 < 4294967296 by omega)⟩
theorem Ot {N x:Nat} (h:N < 36028797018963968) (hx:x < 256):IntKind.i64.wrap ((BitVec.ofInt IntKind.i64.bits (IntKind.i64.wrap ((N:Int)*256)) ||| BitVec.ofInt IntKind.i64.bits (IntKind.i64.wrap (x:Int))).toNat:Int)=((N*256+x:Nat):Int):=by
 rw [ax (x:=(N:Int)*256) (by omega) (by omega),ax (x:=(x:Int)) (by omega) (by omega),dP N x h hx]
 omega
theorem NA {N:Nat} (h:N < 18446744073709551616):aH (.flat false 2 1 (bn N)) (.aP true 1 [[.int .u32 (IntKind.u32.wrap (N:Int))],[.int .u32 (IntKind.u32.wrap ((N:Int).fdiv (2 ^ min (Int.toNat 32) IntKind.u64.bits)))]]):=by
 obtain ⟨h1,J⟩:=Nz h;refine ⟨(fun h=>by cases h),rfl,Nat.le_refl _,fun r hr=>?_,fun r hr v hv=>dI (l:=bn N r) rfl v hv⟩
 have hr:r < 2:=hr
 match r,hr with
 | 0,_ =>
  show [Value.int .u32 (an N 0:Nat)]=[Value.int .u32 (IntKind.u32.wrap (N:Int))]
  rw [h1,w8]; rfl
 | 1,_ =>
  show [Value.int .u32 (an N 1:Nat)]=[Value.int .u32 (IntKind.u32.wrap ((N:Int).fdiv (2 ^ min (Int.toNat 32) IntKind.u64.bits)))]
  rw [J,cf,dk (by omega) (by omega)]; rfl
theorem uH {x y:Int} (h:x < y):dU x y=-1:=if_pos h
theorem uI {x y:Int} (h:y < x):dU x y=1:=by
 unfold dU;rw [if_neg (by omega),if_pos h]
theorem Ya {N:Nat} (h:((nl N:Nat):Int) > 0):0 < N:=by
 rcases Nat.eq_zero_or_pos N with h0 | h0
 ·rw [h0,sG] at h; exact absurd h (by decide)
 ·exact h0
theorem Ud {N:Nat} (h:¬ ((nl N:Nat):Int) > 0):N=0:=LP (by omega)
theorem xq {N:Nat} (h:0 < N):decide (((nl N:Nat):Int) > 0)=true:=decide_eq_true (by have:=zz (show N≠0 by omega); omega)
theorem xe {N:Nat} (h:N=0):decide (((nl N:Nat):Int) > 0)=false:=by rw [h,sG]; rfl
theorem DZ {i:Nat} (h:i≤6):C ^ i≤281474976710656:=Nat.le_trans (Nat.pow_le_pow_right (by decide) h) (by decide)
theorem ob {i:Nat} (h:i≤7):C ^ i≤72057594037927936:=Nat.le_trans (Nat.pow_le_pow_right (by decide) h) (by decide)
theorem wU:aG 0=.agg ⟨[.bool false,.string ⟨#[]⟩]⟩:=by unfold aG; rw [Int.natAbs_zero,oZ]; rfl
theorem Bw {x y q r:Int} (hy:0 < y) (h:r+y*q=x) (h0:0≤r) (h1:r < y):x.fdiv y=q∧x.fmod y=r:=by
 have:=(Int.ediv_emod_unique hy).2 ⟨h,h0,h1⟩;rw [Int.fdiv_eq_ediv_of_nonneg _ (Int.le_of_lt hy),Int.fmod_eq_emod_of_nonneg _ (Int.le_of_lt hy)];exact this
theorem E2 {x y q r:Int} (hy:y < 0) (h:r+y*q=x) (h0:r≤0) (h1:y < r):x.fdiv y=q∧x.fmod y=r:=by
 have J:=Bw (x:=-x) (y:=-y) (q:=q) (r:=-r) (by omega) (by rw [← h,Int.neg_mul]; omega) (by omega) (by omega)
 rw [Int.neg_fdiv_neg] at J;refine ⟨J.1,?_⟩;rw [Int.fmod_def,J.1,← h];omega
theorem wV {b c:Bool} {A D:Nat} (hD:0 < D) (h:A % D=0∨b=c):(a9 b A).fdiv (a9 c D)=a9 (b != c) (A / D)∧(a9 b A).fmod (a9 c D)=a9 b (A % D):=by
 have hm:=Nat.mod_lt A hD;have he:((A % D:Nat):Int)+(D:Int)*((A / D:Nat):Int)=(A:Int):=by
  have:=Nat.mod_add_div A D;have J:=congrArg (fun n:Nat=>(n:Int)) this
  simpa using J
 cases b <;> cases c
 ·exact Bw (by simp [a9]; omega) (by simpa [a9] using he) (by simp [a9]; omega) (by simp only [a9,Bool.false_eq_true,if_false]; omega)
 ·have h:A % D=0:=h.resolve_right (by simp)
  refine E2 (by simp [a9]; omega) ?_ (by simp [a9,h]) (by simp [a9,h]; omega)
  rw [h] at he ⊢;simp only [a9,Bool.false_eq_true,if_false,if_true,bne,Bool.not_false,show ((false == true)=false) from rfl,Int.neg_mul_neg]
  exact he
 ·have h:A % D=0:=h.resolve_right (by simp)
  refine Bw (by simp [a9]; omega) ?_ (by simp [a9,h]) (by simp [a9,h]; omega)
  rw [h] at he ⊢;simp only [a9,Bool.false_eq_true,if_false,if_true,bne,Bool.not_false,show ((true == false)=false) from rfl,Int.mul_neg]
  omega
 ·refine E2 (by simp [a9]; omega) ?_ (by simp only [a9,if_true]; omega) (by simp only [a9,if_true]; omega)
  simp only [a9,if_true,bne,Bool.not_true,show ((true == true)=true) from rfl,Bool.false_eq_true,if_false,Int.neg_mul]
  omega
theorem FB {b c:Bool} {A D:Nat} (hD:0 < D) (h:A % D≠0) (pQ:b≠c):(a9 b A).fdiv (a9 c D)=a9 (b != c) (A / D) - 1∧(a9 b A).fmod (a9 c D)=a9 b (A % D)+a9 c D:=by
 have hm:=Nat.mod_lt A hD;have he:((A % D:Nat):Int)+(D:Int)*((A / D:Nat):Int)=(A:Int):=by
  have:=Nat.mod_add_div A D;have J:=congrArg (fun n:Nat=>(n:Int)) this
  simpa using J
 cases b <;> cases c
 ·exact absurd rfl pQ
 ·refine E2 (by simp [a9]; omega) ?_ (by simp only [a9,Bool.false_eq_true,if_false,if_true]; omega) (by simp only [a9,Bool.false_eq_true,if_false,if_true]; omega)
  simp only [a9,Bool.false_eq_true,if_false,if_true,bne,Bool.not_false,show ((false == true)=false) from rfl,Int.mul_sub,Int.neg_mul_neg,Int.mul_one]
  omega
 ·refine Bw (by simp [a9]; omega) ?_ (by simp only [a9,Bool.false_eq_true,if_false,if_true]; omega) (by simp only [a9,Bool.false_eq_true,if_false,if_true]; omega)
  simp only [a9,Bool.false_eq_true,if_false,if_true,bne,Bool.not_false,show ((true == false)=false) from rfl,Int.mul_sub,Int.mul_neg,Int.mul_one]
  omega
 ·exact absurd rfl pQ
theorem xf {N:Nat} (h:N=0):(!(nb N).toList == (⟨#[]⟩:ByteArray).toList)=false:=by rw [qF,h,oZ]; simp
theorem xr {N:Nat} (h:N≠0):(!(nb N).toList == (⟨#[]⟩:ByteArray).toList)=true:=by
 rw [qF];have:nb N≠⟨#[]⟩:=fun e=>h (KW.1 e)
 simp [this]
abbrev IV:=Bool × ByteArray
def IV.v (i:IV):Value:=.agg ⟨[.bool i.1,.string i.2]⟩
def IV.z (i:IV):Int:=a9 i.1 (ab i.2)
def IV.ok (i:IV):Prop:=i.2.size≤549755813888
theorem IV.nl {i:IV} (h:i.ok):nl (ab i.2)≤137438953472:=by
 rw [Pf];have:=jh i.2;have h:i.2.size≤549755813888:=h;omega
theorem Dd (b:Bool) (N:Nat):IV.z (b && N != 0,nb N)=a9 b N:=by
 show a9 _ (ab (nb N))=_
 rw [ij];cases b
 ·rfl
 ·by_cases h:N=0
  ·subst h; rfl
  ·have e:(N != 0)=true:=by simp [h]
   rw [e]; rfl
theorem BT {N:Nat} {s:ByteArray} (h:N≤ab s):(nb N).size≤s.size:=by
 rw [gG];exact Nat.le_trans (iT h) (jh s)
theorem HB:(nb 1).size≤1:=by rw [gG]; exact gR (by decide)
theorem Ph (z:Int):IV.z (decide (z < 0),nb z.natAbs)=z:=by
 show a9 _ (ab (nb z.natAbs))=z
 rw [ij];unfold a9;by_cases h:z < 0
 ·simp [h]; omega
 ·simp [h]; omega
theorem G3 {i:IV} (h:i.2.size≤7):-72057594037927936 < i.z∧i.z < 72057594037927936:=by
 have h1:=Nat.lt_of_lt_of_le (gx i.2) (ob h);unfold IV.z a9
 split <;> omega
def e9:bC:={ ι:=Int,args:=fun n=>[.int .i64 n],pre:=fun n=>-9223372036854775808≤n∧n < 9223372036854775808,val:=fun n=>aG n }
def xt:bC:={ ι:=IV,args:=fun i=>[i.v],pre:=IV.ok,val:=fun i=>.tuple ⟨[.int .i64 (if i.2.size≤7 then i.z else 0),.bool (decide (i.2.size≤7))]⟩ }
def g0:bC:={ ι:=IV,args:=fun i=>[i.v],pre:=IV.ok,val:=fun i=>aG (-i.z) }
abbrev kC:=IV × IV
def kC.ok (i:kC):Prop:=i.1.ok∧i.2.ok
def jb:bC:={ ι:=kC,args:=fun i=>[i.1.v,i.2.v],pre:=kC.ok,val:=fun i=>aG (i.1.z+i.2.z) }
def mK:bC:={ ι:=kC,args:=fun i=>[i.1.v,i.2.v],pre:=kC.ok,val:=fun i=>aG (i.1.z - i.2.z) }
def fu:bC:={ ι:=kC,args:=fun i=>[i.1.v,i.2.v],pre:=kC.ok,val:=fun i=>aG (i.1.z*i.2.z) }
def lT:bC:={ ι:=kC,args:=fun i=>[i.1.v,i.2.v],pre:=kC.ok,val:=fun i=>.int .i64 (dU i.1.z i.2.z) }
def vA:bC:={ ι:=kC,args:=fun i=>[i.1.v,i.2.v],pre:=kC.ok,val:=fun i=>aG (Int.gcd i.1.z i.2.z:Nat) }
def iM:bC:={ ι:=kC,args:=fun i=>[i.1.v,i.2.v],pre:=kC.ok,val:=fun i=>.tuple ⟨[aG (i.1.z.fdiv i.2.z),aG (if i.2.z=0 then 0 else i.1.z.fmod i.2.z),.int .i64 (if i.2.z=0 then 10 else 0)]⟩ }
theorem y8 {s:ByteArray} {i:Nat} (h:i < s.size):ab s / C ^ (s.size - (i+1))=ab s / C ^ (s.size - i)*256+bW s i:=by
 rw [uo h,show s.size - 1 - i=s.size - (i+1) by omega]
 have e:C ^ (s.size - i)=C ^ (s.size - (i+1))*C:=by rw [← Nat.pow_succ]; congr 1; omega
 rw [e,← Nat.div_div_eq_div_mul,Nat.mul_comm];exact (Nat.div_add_mod _ C).symm
theorem De (s:ByteArray) {i:Nat} (h:i≤s.size):ab s / C ^ (s.size - i) < C ^ i:=by
 refine (Nat.div_lt_iff_lt_mul (gZ _)).2 ?_;rw [← Nat.pow_add,show i+(s.size - i)=s.size by omega]
 exact gx s
open Go
def jn:bC:={ ι:=IV,args:=fun i=>[i.v],pre:=IV.ok,val:=fun i=>aG i.z }
def ke:bC:={ ι:=ByteArray,args:=fun s=>[.string s],pre:=fun s=>s.size≤7,val:=fun s=>.int .i64 (ab s:Nat) }
def xL:bC:={ ι:=IV,args:=fun i=>[i.v],pre:=fun i=>i.2.size≤7,val:=fun i=>.int .i64 i.z }
def IX:bC:={ ι:=Nat,args:=fun n=>[.int .i64 n],pre:=fun n=>n < 9223372036854775808,val:=fun n=>.string (nb n) }
def sI:bC:={ ι:=Nat × Nat,args:=fun i=>[.string (nb i.1),.string (nb i.2)],pre:=fun i=>aS i.1≤1099511627776∧aS i.2≤1099511627776,val:=fun i=>.int .i64 (cM i.1 i.2) }
theorem drop_zero {u:ByteArray} (h1:u.size≠0) (J:bW u 0=0):ab (u.extract 1 u.size)=ab u∧(u.extract 1 u.size).size=u.size - 1:=by
 have h3:=uo (s:=u) (i:=0) (by omega)
 have h4:=gx u;refine ⟨?_,E8 (by omega) (Nat.le_refl _)⟩
 rw [Fb (by omega) (Nat.le_refl _),Nat.sub_self,Nat.pow_zero,Nat.div_one]
 refine Nat.mod_eq_of_lt ?_;rw [J,Nat.sub_zero] at h3;have h5:ab u / C ^ (u.size - 1) < C:=(Nat.div_lt_iff_lt_mul (gZ _)).2 (by
  rw [Nat.mul_comm,← Nat.pow_succ,show (u.size - 1).succ=u.size by omega]; exact h4)
 rw [Nat.mod_eq_of_lt h5] at h3;rcases Nat.lt_or_ge (ab u) (C ^ (u.size - 1)) with h6 | h6
 ·exact h6
 ·have:=Nat.div_pos h6 (gZ _);omega
theorem NB {N x:Nat} (h:N < 36028797018963968) (hx:x < 256):IntKind.i64.wrap ((BitVec.ofInt IntKind.i64.bits (IntKind.i64.wrap ((N:Int)*2 ^ min (Int.toNat 8) IntKind.i64.bits)) ||| BitVec.ofInt IntKind.i64.bits (IntKind.i64.wrap (x:Int))).toNat:Int)=((N*256+x:Nat):Int):=Ot h hx
theorem qH (t:Nat):IntKind.u8.wrap (t:Int)=((t % C:Nat):Int):=by rw [lz]; rfl
theorem Fc {g:Nat→List Value} {i m X:Nat} (h:∀ r,r < m→g (i+r)=[.int .u8 ((X / C ^ (m - 1 - r) % C:Nat):Int)]):(⟨⟨bytesOf g i m⟩⟩:ByteArray)=be m X:=by
 have e:bytesOf g i m=bytesOf (fun r=>g (i+r)) 0 m:=by
  unfold bytesOf;simp only [Nat.zero_add]
 rw [e];exact wM h
theorem x0 {N n:Nat} (h:N < C ^ n) (J:n=0∨C ^ (n - 1)≤N):nb N=be n N:=by
 unfold nb;rw [Pc h J]
theorem Vy {b:Bool} {s:ByteArray} (h:0 < s.size) (J:bW s 0≠0):Value.agg ⟨[.bool b,.string s]⟩=aG (IV.z (b,s)):=by
 have h3:=zA (s:=s) (.inr J);have h4:ab s≠0:=by
  intro e;rw [e,oZ] at h3;rw [h3] at h;exact absurd h (by decide)
 have e:=jl b (ab s);unfold lS at e;rw [← h3] at e;have e1:(ab s != 0)=true:=by simp [h4]
 rw [e1,Bool.and_true] at e;exact e
theorem QN {n:Nat} (h:n < 9223372036854775808):n / C ^ 8=0:=Nat.div_eq_of_lt (Nat.lt_of_lt_of_le h (by decide))
theorem MO {A D:Nat} (h:(nb A).size < (nb D).size):A < D:=by
 rw [gG,gG] at h;exact SV h
theorem Vz {A D:Nat} (h:(nb A).size=(nb D).size):Op.bytesLess (nb A).toList (nb D).toList=decide (A < D):=by
 rw [Wz h,ij,ij]
theorem VA {A D:Nat}:((nb A).toList == (nb D).toList)=decide (A=D):=by
 rw [qF];by_cases h:A=D
 ·subst h; simp
 ·have:nb A≠nb D:=fun e=>h (Pd e)
  simp [this,h]
theorem Gv (N:Nat):(!(nb N).toList == (⟨#[]⟩:ByteArray).toList)=(N != 0):=by
 by_cases h:N=0
 ·rw [xf h,h]; rfl
 ·rw [xr h]; simp [h]
theorem Fe (n k:Nat):n / C ^ k / 256=n / C ^ (k+1):=by rw [Nat.div_div_eq_div_mul,← Nat.pow_succ]
open Go
def bR (N i:Nat):Nat:=N / C ^ i % C
theorem qI (N i:Nat):bR N i < C:=Nat.mod_lt _ (by decide)
def kf (Y j d:Nat):Nat:=Y % C ^ j+C ^ j*(d+C*(Y / C ^ (j+1)))
theorem FC (Y j:Nat):Y=Y % C ^ j+C ^ j*(bR Y j+C*(Y / C ^ (j+1))):=by
 have h1:=Nat.mod_add_div Y (C ^ j);have J:=Nat.mod_add_div (Y / C ^ j) C;rw [Nat.div_div_eq_div_mul,← Nat.pow_succ] at J;unfold bR;rw [J,h1]
theorem LX (Y j d:Nat):kf Y j d+bR Y j*C ^ j=Y+d*C ^ j:=by
 have h:=FC Y j;unfold kf;rw [Nat.mul_add] at h ⊢;have e1:C ^ j*bR Y j=bR Y j*C ^ j:=Nat.mul_comm _ _;have e2:C ^ j*d=d*C ^ j:=Nat.mul_comm _ _;omega
theorem Ou {Y j d:Nat} (hd:d < C) (r:Nat):bR (kf Y j d) r=if r=j then d else bR Y r:=by
 have ha:Y % C ^ j < C ^ j:=Nat.mod_lt _ (gZ j);rcases Nat.lt_trichotomy r j with h | h | h
 ·rw [if_neg (by omega)]
  have key:∀ K,bR (Y % C ^ j+C ^ j*K) r=bR (Y % C ^ j) r:=by
   intro K;unfold bR;have e:C ^ j*K=C ^ r*(C*(C ^ (j - r - 1)*K)):=by
    rw [← Nat.mul_assoc,← Nat.mul_assoc,← Nat.pow_succ,← Nat.pow_add,show r+1+(j - r - 1)=j by omega]
   rw [e,Nat.add_mul_div_left _ _ (gZ r),Nat.add_mul_mod_self_left]
  have h1:=key (d+C*(Y / C ^ (j+1)));have J:=key (bR Y j+C*(Y / C ^ (j+1)));rw [← FC Y j] at J;unfold kf;rw [h1,J]
 ·subst h;rw [if_pos rfl];unfold kf bR;rw [oR ha,Nat.add_mul_mod_self_left,Nat.mod_eq_of_lt hd]
 ·rw [if_neg (by omega)]
  have key:∀ d',d' < C→bR (Y % C ^ j+C ^ j*(d'+C*(Y / C ^ (j+1)))) r=Y / C ^ (j+1) / C ^ (r - j - 1) % C:=by
   intro d' cV;unfold bR;have e:C ^ r=C ^ j*(C*C ^ (r - j - 1)):=by
    rw [← Nat.mul_assoc,← Nat.pow_succ,← Nat.pow_add,show j+1+(r - j - 1)=r by omega]
   rw [e,← Nat.div_div_eq_div_mul,oR ha,← Nat.div_div_eq_div_mul,oR cV]
  have h1:=key d hd;have J:=key (bR Y j) (qI Y j);rw [← FC Y j] at J;unfold kf;rw [h1,J]
theorem WL (r:Nat):bR 0 r=0:=by simp [bR]
theorem G4 {N n:Nat} (h:N < C ^ n) {r:Nat} (hr:n≤r):bR N r=0:=by
 unfold bR;have:C ^ n≤C ^ r:=Nat.pow_le_pow_right (by decide) hr
 rw [Nat.div_eq_of_lt (by omega)]; rfl
theorem wW (N i:Nat):N % C ^ (i+1)=N % C ^ i+bR N i*C ^ i:=by
 unfold bR;rw [Nat.pow_succ,Nat.mod_mul];rw [Nat.mul_comm (C ^ i)]
theorem LY {Y i d:Nat} (hY:Y < C ^ i):kf Y i d=Y+d*C ^ i:=by
 have h:=LX Y i d;rw [G4 hY (Nat.le_refl _),Nat.zero_mul,Nat.add_zero] at h;exact h
theorem MP {Z j d m:Nat} (hZ:Z < C ^ m) (hj:j < m) (hd:d < C):kf Z j d < C ^ m:=by
 have h1:(kf Z j d) / C ^ m=0:=by
  have e:C ^ m=C ^ j*(C*C ^ (m - j - 1)):=by
   rw [← Nat.mul_assoc,← Nat.pow_succ,← Nat.pow_add,show j+1+(m - j - 1)=m by omega]
  have ha:Z % C ^ j < C ^ j:=Nat.mod_lt _ (gZ j);unfold kf;rw [e,← Nat.div_div_eq_div_mul,oR ha,← Nat.div_div_eq_div_mul,oR hd,Nat.div_div_eq_div_mul,← Nat.pow_add,show j+1+(m - j - 1)=m by omega]
  exact Nat.div_eq_of_lt hZ
 rcases Nat.lt_or_ge (kf Z j d) (C ^ m) with h | h
 ·exact h
 ·have:=Nat.div_pos h (gZ m);omega
theorem Tr {Z c x D i k t Y:Nat} (he:Z+c*C ^ (i+k)=Y+x*(D % C ^ k)*C ^ i) (ht:t=c+(x*bR D k+bR Z (i+k))) :
  kf Z (i+k) (t % C)+t / C*C ^ (i+(k+1))=Y+x*(D % C ^ (k+1))*C ^ i:=by
 have hs:=LX Z (i+k) (t % C);rw [wW D k,← Nat.add_assoc,Nat.pow_succ];rw [Nat.pow_add] at he hs ⊢;exact Lg he hs ht
theorem Ue {A D Y Z c i n:Nat} (hY:Y=A % C ^ i*D) (hD:D < C ^ n) (hZ:Z < C ^ (i+n)) (he:Z+c*C ^ (i+n)=Y+bR A i*(D % C ^ n)*C ^ i) :
  kf Z (i+n) c=A % C ^ (i+1)*D:=by
 rw [LY hZ,he,Nat.mod_eq_of_lt hD,hY,wW,Nat.add_mul,Nat.mul_assoc (bR A i),Nat.mul_comm D,← Nat.mul_assoc]
open Go
abbrev S2:=ByteArray × ByteArray
def S2.ok (i:S2):Prop:=i.1.size≤549755813896∧i.2.size≤549755813896
def xu:bC:={ ι:=S2,args:=fun i=>[.string i.1,.string i.2],pre:=S2.ok,val:=fun i=>.string (nb (ab i.1+ab i.2)) }
def sJ:bC:={ ι:=S2,args:=fun i=>[.string i.1,.string i.2],pre:=fun i=>S2.ok i∧ab i.2≤ab i.1,val:=fun i=>.string (nb (ab i.1 - ab i.2)) }
def G5:bC:={ ι:=S2,args:=fun i=>[.string i.1,.string i.2],pre:=fun i=>i.1.size≤549755813888∧i.2.size≤549755813888,val:=fun i=>.string (nb (ab i.1*ab i.2)) }
def qz:bC:={ ι:=ByteArray × Nat,args:=fun i=>[.string i.1,.string (nb i.2)],pre:=fun i=>i.1.size≤549755813888∧aS i.2≤549755813888∧i.2≠0,val:=fun i=>.tuple ⟨[.string (nb (ab i.1 / i.2)),.string (nb (ab i.1 % i.2))]⟩ }
theorem uj {s:ByteArray} {j:Nat} (h:j < s.size):bW s (s.size - (j+1))=bR (ab s) j:=by
 rw [uo (by omega),show s.size - 1 - (s.size - (j+1))=j by omega]
 rfl
theorem Cr {s:ByteArray} {j:Nat} (h:s.size≤j):bR (ab s) j=0:=G4 (gx s) h
def mX (g:Nat→List Value) (n j Y:Nat):Prop:=(∀ r,r < n→∃ x:Int,g r=[.int .u8 x])∧∀ r,n - j≤r→r < n→g r=[.int .u8 ((bR Y (n - 1 - r):Nat):Int)]
theorem KF (n:Nat):mX (fun _=>[.int .u8 0]) n 0 0:=⟨fun r _=>⟨0,rfl⟩,fun r h1 J=>absurd h1 (by omega)⟩
theorem KJ {g:Nat→List Value} {n j Y d:Nat} (h:mX g n j Y) (hj:j < n) (hY:Y < C ^ j) (hd:d < C) :
  mX (fun r=>if r=n - (j+1) then [.int .u8 (d:Nat)] else g r) n (j+1) (Y+d*C ^ j):=by
 refine ⟨fun r hr=>?_,fun r h1 J=>?_⟩
 ·by_cases e:r=n - (j+1)
  ·exact ⟨_,if_pos e⟩
  ·simp only [if_neg e]; exact h.1 r hr
 ·rw [← LY hY,Ou hd];by_cases e:r=n - (j+1)
  ·simp only [if_pos e];rw [if_pos (by omega)]
  ·simp only [if_neg e];rw [if_neg (by omega)]
   exact h.2 r (by omega) J
theorem KZ {g:Nat→List Value} {n Y:Nat} (h:mX g n n Y):(⟨⟨bytesOf g 0 n⟩⟩:ByteArray)=be n Y:=wM fun r hr=>by
 rw [h.2 r (by omega) hr]
 rfl
theorem Uf {X D Y c i t:Nat} (he:Y+c*C ^ i=X % C ^ i+D % C ^ i) (ht:t=c+bR X i+bR D i) :
  Y+t % C*C ^ i+t / C*C ^ (i+1)=X % C ^ (i+1)+D % C ^ (i+1):=by
 rw [wW X i,wW D i,Nat.pow_succ];exact LR he ht
theorem Li {Y d i:Nat} (hY:Y < C ^ i) (hd:d < C):Y+d*C ^ i < C ^ (i+1):=by
 have h:(d+1)*C ^ i≤C*C ^ i:=Nat.mul_le_mul_right _ hd;rw [Nat.pow_succ,Nat.mul_comm (C ^ i) C];rw [Nat.add_mul] at h;omega
theorem Yb {A D Y c n p q:Nat} (hA:A < C ^ p) (hD:D < C ^ q) (hn:p < n∧q < n) (hY:Y < C ^ n) (he:Y+c*C ^ n=A % C ^ n+D % C ^ n):Y=A+D:=by
 have h1:A < C ^ (n - 1):=Nat.lt_of_lt_of_le hA (Nat.pow_le_pow_right (by decide) (by omega))
 have J:D < C ^ (n - 1):=Nat.lt_of_lt_of_le hD (Nat.pow_le_pow_right (by decide) (by omega))
 have e:C ^ n=C ^ (n - 1)*256:=by rw [← Nat.pow_succ]; congr 1; omega
 have h3:A < C ^ n:=by omega
 have h4:D < C ^ n:=by omega
 rw [Nat.mod_eq_of_lt h3,Nat.mod_eq_of_lt h4] at he;have hc:c=0:=by
  rcases Nat.eq_zero_or_pos c with h | h
  ·exact h
  ·have:1*C ^ n≤c*C ^ n:=Nat.mul_le_mul_right _ h;omega
 subst hc;omega
theorem CK {n Y:Nat} (h:Y < C ^ n):nb (ab (be n Y))=nb Y:=by rw [GY,Nat.mod_eq_of_lt h]
structure zD (A D j Y c:Nat):Prop where
 lt:Y < C ^ j
 eq:Y+c*C ^ j=A % C ^ j+D % C ^ j
theorem SX (A D:Nat):zD A D 0 0 0:=⟨by decide,by simp [Nat.mod_one]⟩
theorem Ts {A D j Y c t n:Nat} {g:Nat→List Value} (h:zD A D j Y c) (hg:mX g n j Y) (hj:j < n) (ht:t=c+bR A j+bR D j) :
  ∃ Y',zD A D (j+1) Y' (t / C)∧mX (fun r=>if r=n - (j+1) then [.int .u8 (t % C:Nat)] else g r) n (j+1) Y' :=
 have fJ:t % C < C:=Nat.mod_lt _ (by decide)
 ⟨Y+t % C*C ^ j,⟨Li h.lt fJ,Uf h.eq ht⟩,KJ hg hj h.lt fJ⟩
theorem Ug {s t:ByteArray} {Y c n:Nat} {g:Nat→List Value} (h:zD (ab s) (ab t) n Y c) (hg:mX g n n Y) (hn:s.size < n∧t.size < n) :
  ∃ v:ByteArray,(⟨⟨bytesOf g 0 n⟩⟩:ByteArray)=v∧v.size=n∧nb (ab v)=nb (ab s+ab t) :=
 ⟨be n Y,KZ hg,xp _ _,by rw [CK h.lt,Yb (gx s) (gx t) hn h.lt h.eq]⟩
theorem Gw {n:Int} (h:n < 0) (J:-9223372036854775808≤n):IntKind.i64.wrap (0 - n)=if n=-9223372036854775808 then n else -n:=by
 split
 ·rename_i e; subst e; decide
 ·rw [ax (by omega) (by omega)]; omega
theorem aaU:nb 9223372036854775808=⟨#[128,0,0,0,0,0,0,0]⟩:=by
 rw [x0 (n:=8) (by decide) (.inr (by decide))]
 rfl
theorem WM:aG (-9223372036854775808)=.agg ⟨[.bool true,.string ⟨#[128,0,0,0,0,0,0,0]⟩]⟩:=by
 rw [← aaU]; rfl
theorem wF {n:Int} (h:n < 0):aG n=.agg ⟨[.bool true,.string (nb n.natAbs)]⟩:=by
 unfold aG;rw [decide_eq_true h]
theorem wG {n:Int} (h:0≤n):aG n=.agg ⟨[.bool false,.string (nb n.natAbs)]⟩:=by
 unfold aG;rw [decide_eq_false (by omega)]
theorem IV.aS {i:IV} (h:i.ok):Go.Ae.aS i.z.natAbs≤549755813888:=by
 unfold IV.z;rw [uA];exact Nat.le_trans (jh i.2) h
theorem Ov {x y:Int} (hx:0≤x) (hy:0≤y):dU x y=cM x.natAbs y.natAbs:=by
 rw [← Cq]; congr 1 <;> omega
theorem Ow {x y:Int} (hx:x < 0) (hy:y < 0):dU x y=cM y.natAbs x.natAbs:=by
 rw [← Ny]; congr 1 <;> omega
open Go
structure zE (A D j Y c:Nat):Prop where
 lt:Y < C ^ j
 eq:Y+D % C ^ j=A % C ^ j+c*C ^ j
theorem SY (A D:Nat):zE A D 0 0 0:=⟨by decide,by simp [Nat.mod_one]⟩
theorem Uh {Y D A P c e d a c':Nat} (h:Y+D=A+c*P) (he:e+c+d=a+256*c') :
  Y+e*P+(D+d*P)=A+a*P+c'*(P*256):=by
 have J:(e+c+d)*P=(a+256*c')*P:=by rw [he]
 simp only [Nat.add_mul] at J;have h3:c'*(P*256)=256*c'*P:=by rw [Nat.mul_comm P,← Nat.mul_assoc,Nat.mul_comm c']
 omega
theorem BI {A D j Y c e c' n:Nat} {g:Nat→List Value} (h:zE A D j Y c) (hg:mX g n j Y) (hj:j < n) (he:e < C) (ht:e+c+bR D j=bR A j+256*c') :
  ∃ Y',zE A D (j+1) Y' c'∧mX (fun r=>if r=n - (j+1) then [.int .u8 (e:Nat)] else g r) n (j+1) Y' :=
 ⟨Y+e*C ^ j,⟨Li h.lt he,by
  rw [wW A j,wW D j,Nat.pow_succ];exact Uh h.eq ht⟩,KJ hg hj h.lt he⟩
theorem Ui {s t:ByteArray} {Y c:Nat} {g:Nat→List Value} (h:zE (ab s) (ab t) s.size Y c) (hle:ab t≤ab s) (hg:mX g s.size s.size Y) :
  ∃ v:ByteArray,(⟨⟨bytesOf g 0 s.size⟩⟩:ByteArray)=v∧v.size=s.size∧nb (ab v)=nb (ab s - ab t):=by
 refine ⟨be s.size Y,KZ hg,xp _ _,?_⟩;rw [CK h.lt];have h1:=h.eq;have J:=h.lt;have h3:=gx s;rw [Nat.mod_eq_of_lt h3,Nat.mod_eq_of_lt (Nat.lt_of_le_of_lt hle h3)] at h1;have hc:c=0:=by
  rcases Nat.eq_zero_or_pos c with h | h
  ·exact h
  ·have:1*C ^ s.size≤c*C ^ s.size:=Nat.mul_le_mul_right _ h;omega
 subst hc
 congr 1
 omega
def qQ (g:Nat→List Value) (n Z:Nat):Prop:=∀ r,r < n→g r=[.int .i64 ((bR Z (n - 1 - r):Nat):Int)]
theorem Tt (n:Nat):qQ (fun _=>[.int .i64 0]) n 0:=fun r hr=>by rw [WL]; rfl
theorem MQ {g:Nat→List Value} {n Z j d:Nat} (h:qQ g n Z) (hj:j < n) (hd:d < C) :
  qQ (fun r=>if r=n - 1 - j then [.int .i64 (d:Nat)] else g r) n (kf Z j d):=fun r hr=>by
 rw [Ou hd];by_cases e:r=n - 1 - j
 ·simp only [if_pos e]; rw [if_pos (by omega)]
 ·simp only [if_neg e]; rw [if_neg (by omega)]; exact h r hr
structure zF (A D p m q Z c:Nat):Prop where
 lt:Z < C ^ (p+m)
 eq:Z+c*C ^ (p+q)=A % C ^ p*D+bR A p*(D % C ^ q)*C ^ p
structure zG (A D p m Z:Nat):Prop where
 lt:Z < C ^ (p+m)
 eq:Z=A % C ^ p*D
theorem SZ (A D m:Nat):zG A D 0 m 0:=⟨gZ _,by simp [Nat.mod_one]⟩
theorem S0 {A D p m Z:Nat} (h:zG A D p m Z):zF A D p m 0 Z 0:=⟨h.lt,by simp [Nat.mod_one,h.eq]⟩
theorem Tu {A D p m q Z c t n:Nat} {g:Nat→List Value} (h:zF A D p m q Z c) (hg:qQ g n Z) (hq:q < m) (hn:p+m < n) (ht:t=c+(bR A p*bR D q+bR Z (p+q))) :
  ∃ Z',zF A D p m (q+1) Z' (t / C)∧qQ (fun r=>if r=n - 1 - (p+q) then [.int .i64 (t % C:Nat)] else g r) n Z' :=
 have fJ:t % C < C:=Nat.mod_lt _ (by decide)
 ⟨kf Z (p+q) (t % C),⟨MP h.lt (by omega) fJ,Tr h.eq ht⟩,MQ hg (by omega) fJ⟩
theorem Uj {A D p m Z c n:Nat} {g:Nat→List Value} (h:zF A D p m m Z c) (hD:D < C ^ m) (hg:qQ g n Z) (hn:p+m < n) (hc:c < C) :
  (bR Z (p+m)=0)∧∃ Z',zG A D (p+1) m Z'∧qQ (fun r=>if r=n - 1 - (p+m) then [.int .i64 (c:Nat)] else g r) n Z' :=
 ⟨G4 h.lt (Nat.le_refl _),kf Z (p+m) c,⟨by
  rw [show p+1+m=p+m+1 by omega]
  exact MP (Nat.lt_of_lt_of_le h.lt (Nat.pow_le_pow_right (by decide) (Nat.le_succ _))) (by omega) hc,Ue rfl hD h.lt h.eq⟩,MQ hg hn hc⟩
theorem Uk {A D p m Z:Nat} (h:zG A D p m Z) (hA:A < C ^ p):Z=A*D:=by rw [h.eq,Nat.mod_eq_of_lt hA]
def xg (g:Nat→List Value) (n i Z:Nat):Prop:=(∀ r,r < n→∃ x:Int,g r=[.int .u8 x])∧∀ r,r < i→g r=[.int .u8 ((bR Z (n - 1 - r):Nat):Int)]
theorem SD (n Z:Nat):xg (fun _=>[.int .u8 0]) n 0 Z:=⟨fun r _=>⟨0,rfl⟩,fun r h=>absurd h (by omega)⟩
theorem SH {g:Nat→List Value} {n i Z:Nat} (h:xg g n i Z) (hi:i < n) :
  xg (fun r=>if r=i then [.int .u8 (bR Z (n - 1 - i):Nat)] else g r) n (i+1) Z:=by
 refine ⟨fun r hr=>?_,fun r hr=>?_⟩
 ·by_cases e:r=i
  ·exact ⟨_,if_pos e⟩
  ·simp only [if_neg e]; exact h.1 r hr
 ·by_cases e:r=i
  ·subst e; simp
  ·simp only [if_neg e]; exact h.2 r (by omega)
theorem S3 {g:Nat→List Value} {n Z:Nat} (h:xg g n n Z):(⟨⟨bytesOf g 0 n⟩⟩:ByteArray)=be n Z:=wM fun r hr=>h.2 r hr
theorem S4 {g:Nat→List Value} {n Z:Nat} (h:xg g n n Z) (hZ:Z < C ^ n):∃ v:ByteArray,(⟨⟨bytesOf g 0 n⟩⟩:ByteArray)=v∧v.size=n∧nb (ab v)=nb Z :=
 ⟨be n Z,S3 h,xp _ _,CK hZ⟩
theorem Ul {c x y z t:Nat} (hc:c < C) (hx:x < C) (hy:y < C) (hz:z < C) (ht:t=c+(x*y+z)):t / C < C∧t < 65536:=by
 have:x*y≤255*255:=Nat.mul_le_mul (Nat.le_of_lt_succ hx) (Nat.le_of_lt_succ hy);have hc:c < 256:=hc;have hz:z < 256:=hz;have h:t < 65536:=by omega
 exact ⟨by show t / 256 < 256; omega,h⟩
theorem Yc {c x y z t:Nat} (hc:c < C) (hx:x < C) (hy:y < C) (hz:z < C) (ht:t=c+(x*y+z)) :
  IntKind.i64.wrap ((c:Int)+IntKind.i64.wrap ((z:Int)+IntKind.i64.wrap (IntKind.i64.wrap (x:Int)*IntKind.i64.wrap (y:Int))))=(t:Int):=by
 have h:x*y≤255*255:=Nat.mul_le_mul (Nat.le_of_lt_succ hx) (Nat.le_of_lt_succ hy);have hc:c < 256:=hc;have hz:z < 256:=hz;have hx:x < 256:=hx;have hy:y < 256:=hy;have e:(x:Int)*(y:Int)=((x*y:Nat):Int):=by rw [Int.natCast_mul]
 rw [ax (x:=(x:Int)) (by omega) (by omega),ax (x:=(y:Int)) (by omega) (by omega),e,ax (x:=((x*y:Nat):Int)) (by omega) (by omega),ax (x:=(z:Int)+_) (by omega) (by omega),ax (by omega) (by omega)]
 omega
theorem Yd {t:Nat} (h:t < 65536):((BitVec.ofInt IntKind.i64.bits (t:Int) &&& BitVec.ofInt IntKind.i64.bits 255).toNat:Int)=((t % C:Nat):Int):=by
 have e1:BitVec.ofInt IntKind.i64.bits (t:Int)=BitVec.ofNat 64 t:=by
  apply BitVec.eq_of_toNat_eq;show ((t:Int) % ((2 ^ 64:Nat):Int)).toNat=t % 2 ^ 64
  omega
 rw [e1];show (((t % 2 ^ 64) &&& 255:Nat):Int)=_
 have:(t % 2 ^ 64) &&& 255=t % 256:=by
  rw [show (255:Nat)=2 ^ 8 - 1 from rfl,Nat.and_two_pow_sub_one_eq_mod]
  omega
 rw [this]
theorem WN {s t:ByteArray}:ab s*ab t < C ^ (s.size+t.size):=by
 rw [Nat.pow_add];exact Nat.lt_of_le_of_lt (Nat.mul_le_mul_right _ (Nat.le_of_lt (gx s))) (Nat.mul_lt_mul_of_pos_left (gx t) (gZ _))
theorem vj {e:Nat} (h:e < 256):IntKind.u8.wrap (e:Int)=(e:Int):=dJ (by omega) (by omega)
structure xM (s:ByteArray) (D i Q R:Nat):Prop where
 eq:ab s / C ^ (s.size - i)=Q*D+R
 lt:R < D
 q:Q < C ^ i
structure uJ (D R' k d R:Nat):Prop where
 eq:R'=d*D+R
 lt:R < 2 ^ k*D
 d:d+2 ^ k≤256
theorem S5 (s:ByteArray) {D:Nat} (hD:D≠0):xM s D 0 0 0:=⟨by
 rw [Nat.sub_zero,Nat.div_eq_of_lt (gx s),Nat.zero_mul],Nat.pos_of_ne_zero hD,Nat.zero_lt_one⟩
theorem SJ {s:ByteArray} {D i Q R:Nat} (h:xM s D i Q R) (hi:i < s.size):uJ D (R*256+bW s i) 8 0 (R*256+bW s i) :=
 ⟨by omega,by
  have h1:bW s i < 256:=wT s i;have J:=h.lt;show _ < 256*D
  omega,by decide⟩
theorem Tv {D R' k d R:Nat} (h:uJ D R' (k+1) d R) (hR:2 ^ k*D≤R):uJ D R' k (d+2 ^ k) (R - 2 ^ k*D):=⟨by
 have:=h.eq;rw [Nat.add_mul];omega,by
 have:=h.lt;rw [Nat.pow_succ,Nat.mul_comm (2 ^ k) 2,Nat.mul_assoc] at this;omega,by
 have:=h.d;rw [Nat.pow_succ] at this;omega⟩
theorem Um {D R' k d R:Nat} (h:uJ D R' (k+1) d R) (hR:R < 2 ^ k*D):uJ D R' k d R:=⟨h.eq,hR,by
 have:=h.d;rw [Nat.pow_succ] at this;omega⟩
theorem Tw {s:ByteArray} {D i Q R d R2:Nat} (h:xM s D i Q R) (hi:i < s.size) (J:uJ D (R*256+bW s i) 0 d R2):xM s D (i+1) (Q*256+d) R2:=⟨by
 rw [y8 hi,h.eq,Nat.add_mul (Q*256),Nat.add_mul (Q*D)];have h3:=J.eq;have e:Q*256*D=Q*D*256:=by rw [Nat.mul_assoc,Nat.mul_comm 256,Nat.mul_assoc]
 rw [e,Nat.add_assoc,h3,Nat.add_assoc],by have:=J.lt; simpa using this,by
 have:=h.q;have h3:d < 256:=by have:=J.d; omega
 rw [Nat.pow_succ];show _ < C ^ i*256
 omega⟩
theorem Un {s:ByteArray} {D Q R:Nat} (h:xM s D s.size Q R):Q=ab s / D∧R=ab s % D:=by
 have h1:=h.eq;rw [Nat.sub_self,Nat.pow_zero,Nat.div_one] at h1;have J:=h.lt;refine ⟨?_,?_⟩
 ·rw [h1,Nat.mul_comm,Nat.mul_add_div (by omega),Nat.div_eq_of_lt J,Nat.add_zero]
 ·rw [h1,Nat.mul_comm,Nat.mul_add_mod,Nat.mod_eq_of_lt J]
def B8 (g:Nat→List Value) (i D:Nat):Prop:=(∀ r,r < 8→∃ x:ByteArray,g r=[.string x])∧∀ r,r < i→g r=[.string (nb (2 ^ r*D))]
theorem Sz (D:Nat):B8 (fun r=>if r=0 then [.string (nb D)] else [.string ⟨#[]⟩]) 1 D:=by
 refine ⟨fun r hr=>?_,fun r hr=>?_⟩
 ·by_cases e:r=0
  ·exact ⟨_,if_pos e⟩
  ·exact ⟨_,if_neg e⟩
 ·have e:r=0:=by omega
  subst e;simp
theorem SE {g:Nat→List Value} {i D:Nat} (h:B8 g (i+1) D) (hi:i+1 < 8) {v:ByteArray} (hv:v=nb (2 ^ i*D+2 ^ i*D)) :
  B8 (fun r=>if r=i+1 then [.string v] else g r) (i+1+1) D:=by
 refine ⟨fun r hr=>?_,fun r hr=>?_⟩
 ·by_cases e:r=i+1
  ·exact ⟨_,if_pos e⟩
  ·simp only [if_neg e]; exact h.1 r hr
 ·by_cases e:r=i+1
  ·subst e;simp only [if_true];rw [hv,Nat.pow_succ,Nat.mul_comm (2 ^ i) 2,Nat.mul_assoc,Nat.two_mul]
  ·simp only [if_neg e]; exact h.2 r (by omega)
theorem F6 {D k:Nat} (hk:k≤8):aS (2 ^ k*D)≤aS D+1:=gR (by
 have h1:=lF D;have J:2 ^ k≤2 ^ 8:=Nat.pow_le_pow_right (by decide) hk
 rw [Nat.pow_succ,Nat.mul_comm (C ^ _)];exact Nat.lt_of_le_of_lt (Nat.mul_le_mul_right _ J) (Nat.mul_lt_mul_of_pos_left h1 (by decide)))
theorem ae4 {k:Nat} (h:k≤7):IntKind.i64.wrap (1*2 ^ min (Int.toNat (IntKind.u64.wrap (k:Int))) IntKind.i64.bits)=((2 ^ k:Nat):Int):=by
 rcases k with _ | _ | _ | _ | _ | _ | _ | _ | k
 all_goals first | rfl | decide | omega
theorem VB (R:Nat) {s:ByteArray} {i:Nat} (h:i < s.size):ab (nb R++s.extract i (i+1))=R*256+bW s i∧(nb R++s.extract i (i+1)).size=aS R+1:=by
 have e:=E8 (s:=s) (l:=i) (h:=i+1) (by omega) (by omega)
 refine ⟨?_,by rw [ByteArray.size_append,gG,e]; omega⟩
 rw [Tn,ij,e,Fb (by omega) (by omega),uo h]
 rw [show i+1 - i=1 by omega,Nat.pow_one,show s.size - (i+1)=s.size - 1 - i by omega]
def z6 (g:Nat→List Value) (n i Q:Nat):Prop:=(∀ r,r < n→∃ x:Int,g r=[.int .u8 x])∧∀ r,r < i→g r=[.int .u8 ((bR Q (i - 1 - r):Nat):Int)]
theorem Tx (n:Nat):z6 (fun _=>[.int .u8 0]) n 0 0:=⟨fun r _=>⟨0,rfl⟩,fun r h=>absurd h (by omega)⟩
theorem NC {Q d:Nat} (hd:d < 256) (r:Nat):bR (Q*256+d) (r+1)=bR Q r∧bR (Q*256+d) 0=d:=by
 unfold bR;have e:(Q*256+d) / 256=Q:=by omega
 refine ⟨?_,?_⟩
 ·rw [Nat.pow_succ,Nat.mul_comm (C ^ r) C,← Nat.div_div_eq_div_mul];show (Q*256+d) / 256 / _ % _=_
  rw [e]
 ·rw [Nat.pow_zero,Nat.div_one];show _ % 256=_
  omega
theorem Uo {g:Nat→List Value} {n i Q d:Nat} (h:z6 g n i Q) (hi:i < n) (hd:d < 256) :
  z6 (fun r=>if r=i then [.int .u8 (d:Nat)] else g r) n (i+1) (Q*256+d):=by
 refine ⟨fun r hr=>?_,fun r hr=>?_⟩
 ·by_cases e:r=i
  ·exact ⟨_,if_pos e⟩
  ·simp only [if_neg e]; exact h.1 r hr
 ·by_cases e:r=i
  ·subst e; simp only [if_true];rw [show r+1 - 1 - r=0 by omega,(NC hd 0).2]
  ·simp only [if_neg e];rw [h.2 r (by omega),show i+1 - 1 - r=(i - 1 - r)+1 by omega,(NC hd _).1]
theorem VC {g:Nat→List Value} {n Q:Nat} (h:z6 g n n Q) (hQ:Q < C ^ n):∃ v:ByteArray,(⟨⟨bytesOf g 0 n⟩⟩:ByteArray)=v∧v.size=n∧nb (ab v)=nb Q :=
 ⟨be n Q,wM fun r hr=>h.2 r hr,xp _ _,CK hQ⟩
open Go
theorem xw {B:Bool} {N:Nat} {z:Int} (h1:B=decide (z < 0)) (J:N=z.natAbs):Value.agg ⟨[.bool B,.string (nb N)]⟩=aG z:=by
 subst h1; subst J; rfl
structure EI (z:Int) (B:Bool) (m:ByteArray):Prop where
 enc:aG z=.agg ⟨[.bool B,.string m]⟩
 sign:B=decide (z < 0)
 nJ:m=nb z.natAbs
theorem EI.mk' (z:Int):∃ B m,EI z B m:=⟨_,_,rfl,rfl,rfl⟩
theorem EI.abs {z:Int} {B:Bool} {m:ByteArray} (h:EI z B m):ab m=z.natAbs:=by rw [h.nJ,ij]
theorem EI.val {z:Int} {B:Bool} {m:ByteArray} (h:EI z B m):IV.z (B,m)=z:=by
 rw [h.sign,h.nJ]; exact Ph z
theorem EI.nil {z:Int} {B:Bool} {m:ByteArray} (h:EI z B m):(m.toList == (⟨#[]⟩:ByteArray).toList)=decide (z=0):=by
 have e:=Gv z.natAbs;rw [← h.nJ] at e;have e2:(m.toList == (⟨#[]⟩:ByteArray).toList)=!(z.natAbs != 0):=by rw [← e,Bool.not_not]
 rw [e2];by_cases hz:z=0
 ·subst hz; rfl
 ·have:z.natAbs≠0:=by omega
  rw [decide_eq_false hz];simp [this]
theorem EI.nn {z:Int} {B:Bool} {m:ByteArray} (h:EI z B m):(!(m.toList == (⟨#[]⟩:ByteArray).toList))=decide (z≠0):=by
 rw [h.nil]; by_cases hz:z=0 <;> simp [hz]
theorem EI.size {z:Int} {B:Bool} {m:ByteArray} (h:EI z B m):m.size=aS z.natAbs:=by rw [h.nJ,gG]
theorem EI.eta {z:Int} {B:Bool} {m:ByteArray} (h:EI z B m):m=nb (ab m):=by rw [h.abs,h.nJ]
theorem EI.small {z:Int} {B:Bool} {m:ByteArray} (h:EI z B m) (h7:m.size≤7):-72057594037927936 < z∧z < 72057594037927936:=by
 have:=G3 (i:=(B,m)) h7;rw [h.val] at this;exact this
theorem EI.same {x y:Int} {B D:Bool} {m k:ByteArray} (h:EI x B m) (J:EI y D k) (e:B=D):Value.agg ⟨[.bool B,.string (nb (ab m+ab k))]⟩=aG (x+y):=by
 have h3:=h.sign;have h4:=J.sign;rw [← e] at h4;refine xw ?_ ?_
 ·cases B
  ·have:=of_decide_eq_false h3.symm;have:=of_decide_eq_false h4.symm;exact (decide_eq_false (by omega)).symm
  ·have:=of_decide_eq_true h3.symm;have:=of_decide_eq_true h4.symm;exact (decide_eq_true (by omega)).symm
 ·rw [h.abs,J.abs];cases B
  ·have:=of_decide_eq_false h3.symm;have:=of_decide_eq_false h4.symm;omega
  ·have:=of_decide_eq_true h3.symm;have:=of_decide_eq_true h4.symm;omega
theorem EI.differ {x y:Int} {B D:Bool} {m k:ByteArray} (h:EI x B m) (J:EI y D k) (e:B≠D) (al:ab k < ab m):Value.agg ⟨[.bool B,.string (nb (ab m - ab k))]⟩=aG (x+y):=by
 have h3:=h.sign;have h4:=J.sign;rw [h.abs,J.abs] at al ⊢;cases B <;> cases D
 ·exact absurd rfl e
 ·have:=of_decide_eq_false h3.symm;have:=of_decide_eq_true h4.symm;exact xw (decide_eq_false (by omega)).symm (by omega)
 ·have:=of_decide_eq_true h3.symm;have:=of_decide_eq_false h4.symm;exact xw (decide_eq_true (by omega)).symm (by omega)
 ·exact absurd rfl e
theorem EI.equal {x y:Int} {B D:Bool} {m k:ByteArray} (h:EI x B m) (J:EI y D k) (e:B≠D) (al:ab k=ab m):x+y=0:=by
 have h3:=h.sign;have h4:=J.sign;rw [h.abs,J.abs] at al;cases B <;> cases D
 ·exact absurd rfl e
 ·have:=of_decide_eq_false h3.symm;have:=of_decide_eq_true h4.symm;omega
 ·have:=of_decide_eq_true h3.symm;have:=of_decide_eq_false h4.symm;omega
 ·exact absurd rfl e
theorem EI.mul {x y:Int} {B D:Bool} {m k:ByteArray} (h:EI x B m) (J:EI y D k) (hx:x≠0) (hy:y≠0):Value.agg ⟨[.bool (B != D),.string (nb (ab m*ab k))]⟩=aG (x*y):=by
 have h3:=h.sign;have h4:=J.sign;rw [h.abs,J.abs];refine xw ?_ (by rw [Int.natAbs_mul])
 have hm:x*y < 0↔¬ ((x < 0)↔(y < 0)):=by
  rcases Int.lt_or_gt_of_ne hx with a | a <;> rcases Int.lt_or_gt_of_ne hy with b | b
  ·have:=Int.mul_pos_of_neg_of_neg a b;constructor
   ·intro; omega
   ·intro h; exact absurd ⟨fun _=>b,fun _=>a⟩ h
  ·have:=Int.mul_neg_of_neg_of_pos a b;constructor
   ·intro _ h; have:=h.1 a; omega
   ·intro; exact this
  ·have:=Int.mul_neg_of_pos_of_neg a b;constructor
   ·intro _ h; have:=h.2 b; omega
   ·intro; exact this
  ·have:=Int.mul_pos a b;constructor
   ·intro; omega
   ·intro h; exact absurd ⟨fun q=>by omega,fun q=>by omega⟩ h
 rw [h3,h4];by_cases a:x < 0 <;> by_cases b:y < 0 <;> simp [a,b,hm]
theorem EI.a9 {z:Int} {B:Bool} {m:ByteArray} (h:EI z B m):Go.Ae.a9 B (ab m)=z:=h.val
theorem Gx {x y zq zr:Int} {B D:Bool} {m k:ByteArray} (hE:EI x B m) (hF:EI y D k) (hy:y≠0) (h:B=D) (hq:zq=((ab m / ab k:Nat):Int)) (hr:zr=((ab m % ab k:Nat):Int)) :
  zq=Int.fdiv x y∧(if D=true then -zr else zr)=Int.fmod x y:=by
 have hk:0 < ab k:=by rw [hF.abs]; omega
 obtain ⟨h1,J⟩:=wV (b:=B) (c:=D) (A:=ab m) hk (.inr h);rw [hE.a9,hF.a9] at h1 J;rw [h1,J,hq,hr,h];cases D <;> exact ⟨rfl,rfl⟩
theorem F7 {x y zq zr:Int} {B D:Bool} {m k:ByteArray} (hE:EI x B m) (hF:EI y D k) (hy:y≠0) (h:B≠D) (hq:zq=((ab m / ab k:Nat):Int)) (hr:zr=((ab m % ab k:Nat):Int)) (h0:zr=0) :
  -zq=Int.fdiv x y∧(if D=true then -zr else zr)=Int.fmod x y:=by
 have hk:0 < ab k:=by rw [hF.abs]; omega
 have h3:ab m % ab k=0:=by rw [h0] at hr; omega
 obtain ⟨h1,J⟩:=wV (b:=B) (c:=D) (A:=ab m) hk (.inl h3);rw [hE.a9,hF.a9] at h1 J;rw [h1,J,hq,h0,h3];refine ⟨?_,?_⟩
 ·cases B <;> cases D
  ·exact absurd rfl h
  ·rfl
  ·rfl
  ·exact absurd rfl h
 ·cases B <;> cases D <;> rfl
theorem Gy {x y zq zr:Int} {B D:Bool} {m k:ByteArray} (hE:EI x B m) (hF:EI y D k) (hy:y≠0) (h:B≠D) (hq:zq=((ab m / ab k:Nat):Int)) (hr:zr=((ab m % ab k:Nat):Int)) (h0:zr≠0) :
  -zq - 1=Int.fdiv x y∧(if D=true then -(((ab k:Nat):Int) - zr) else ((ab k:Nat):Int) - zr)=Int.fmod x y:=by
 have hk:0 < ab k:=by rw [hF.abs]; omega
 obtain ⟨h1,J⟩:=FB (b:=B) (c:=D) (A:=ab m) hk (by omega) h
 rw [hE.a9,hF.a9] at h1;rw [hE.a9] at J;rw [hF.a9] at J;rw [h1,J,hq,hr];refine ⟨?_,?_⟩
 ·cases B <;> cases D
  ·exact absurd rfl h
  ·rfl
  ·rfl
  ·exact absurd rfl h
 ·have hv:=hF.a9;cases B <;> cases D
  ·exact absurd rfl h
  ·rw [← hv]; unfold Go.Ae.a9; simp only [if_true]; simp; omega
  ·rw [← hv]; unfold Go.Ae.a9; simp only [if_true]; simp; omega
  ·exact absurd rfl h
theorem EI.iW {z:Int} (h:0≤z):∃ m,EI z false m:=⟨_,(xw (decide_eq_false (by omega)).symm rfl).symm,(decide_eq_false (by omega)).symm,rfl⟩
theorem ND {n:Nat} (h:n < 72057594037927936):IntKind.i64.wrap (n:Int)=n:=ax (by omega) (by omega)
theorem SL {x y:Int} (h:aS x.natAbs+aS y.natAbs < 8):-9223372036854775808≤x*y∧x*y < 9223372036854775808:=by
 have h1:=lF x.natAbs;have J:=lF y.natAbs;have h3:x.natAbs*y.natAbs < C ^ (aS x.natAbs+aS y.natAbs):=by
  rw [Nat.pow_add];exact Nat.lt_of_le_of_lt (Nat.mul_le_mul_right _ (Nat.le_of_lt h1)) (Nat.mul_lt_mul_of_pos_left J (gZ _))
 have h4:=ob (i:=aS x.natAbs+aS y.natAbs) (by omega)
 rw [← Int.natAbs_mul] at h3;omega
open Go
def fw (d:Nat):ByteArray:=if d=1 then ⟨#[]⟩ else nb d
def bH (q:Rat):Value:=.agg ⟨[.bool (decide (q.num < 0)),.string (nb q.num.natAbs),.string (fw q.den)]⟩
abbrev RV:=Bool × ByteArray × ByteArray
def RV.v (i:RV):Value:=.agg ⟨[.bool i.1,.string i.2.1,.string i.2.2]⟩
def RV.n (i:RV):Int:=a9 i.1 (ab i.2.1)
def RV.d (i:RV):Nat:=if ab i.2.2=0 then 1 else ab i.2.2
def RV.q (i:RV):Rat:=mkRat i.n i.d
def RV.ok (i:RV):Prop:=i.2.1.size≤8589934592∧i.2.2.size≤8589934592
def RV.of (q:Rat):RV:=(decide (q.num < 0),nb q.num.natAbs,fw q.den)
theorem RV.ae5 (q:Rat):(RV.of q).v=bH q:=rfl
theorem RV.jQ (i:RV):i.d≠0:=by
 unfold RV.d
 split <;> omega
theorem VD {d:Nat} (h:d≠0):(if ab (fw d)=0 then 1 else ab (fw d))=d:=by
 unfold fw
 split
 ·rename_i e; rw [e]; rfl
 ·rw [ij,if_neg h]
theorem RV.QO (q:Rat):(RV.of q).n=q.num:=by
 exact Ph q.num
theorem RV.QP (q:Rat):(RV.of q).d=q.den:=VD q.den_nz
theorem RV.iz (q:Rat):(RV.of q).q=q:=by
 unfold RV.q;rw [RV.QO,RV.QP,Rat.mkRat_self]
theorem HC (n:Int) {d:Nat} (h:d≠0):n.fdiv ((Int.gcd n d:Nat):Int)=(mkRat n d).num:=by
 rw [Rat.num_mkRat,if_neg h,Int.fdiv_eq_ediv_of_nonneg _ (by omega)]
 rw [Int.gcd_comm]; rfl
theorem HD (n:Int) {d:Nat} (h:d≠0):((d:Nat):Int).fdiv ((Int.gcd n d:Nat):Int)=(((mkRat n d).den:Nat):Int):=by
 rw [Rat.den_mkRat,if_neg h,Int.fdiv_eq_ediv_of_nonneg _ (by omega),Int.natCast_ediv]
 rw [Int.gcd_comm]; rfl
theorem aaV (n:Int) {d:Nat} (h:d≠0):(mkRat n d).num.natAbs≤n.natAbs:=by
 rw [Rat.num_mkRat,if_neg h];exact Int.natAbs_ediv_le_natAbs n _
theorem Pj (n:Int) {d:Nat} (h:d≠0):(mkRat n d).den≤d:=by
 rw [Rat.den_mkRat,if_neg h];exact Nat.div_le_self _ _
def QB (q:Rat) (k:Nat):Prop:=aS q.num.natAbs≤k∧aS q.den≤k
theorem xx (a b:Nat):aS (a*b)≤aS a+aS b:=gR (by
 rw [Nat.pow_add];exact Nat.lt_of_le_of_lt (Nat.mul_le_mul_right _ (Nat.le_of_lt (lF a))) (Nat.mul_lt_mul_of_pos_left (lF b) (gZ _)))
theorem Ox {a b k:Nat} (ha:aS a≤k) (hb:aS b≤k):aS (a+b)≤k+1:=gR (by
 have h1:=Nat.lt_of_lt_of_le (lF a) (Nat.pow_le_pow_right (n:=C) (by decide) ha)
 have J:=Nat.lt_of_lt_of_le (lF b) (Nat.pow_le_pow_right (n:=C) (by decide) hb)
 rw [Nat.pow_succ];show _ < C ^ k*256
 omega)
theorem QB.mk {n:Int} {d k:Nat} (hd:d≠0) (h1:aS n.natAbs≤k) (J:aS d≤k):QB (mkRat n d) k :=
 ⟨Nat.le_trans (iT (aaV n hd)) h1,Nat.le_trans (iT (Pj n hd)) J⟩
theorem QB.mono {q:Rat} {k l:Nat} (h:QB q k) (hl:k≤l):QB q l:=⟨Nat.le_trans h.1 hl,Nat.le_trans h.2 hl⟩
theorem QB.add {p q:Rat} {k l:Nat} (hp:QB p k) (hq:QB q l):QB (p+q) (k+l+1):=by
 rw [Rat.add_def'];refine QB.mk (Nat.mul_ne_zero p.den_nz q.den_nz) ?_ ?_
 ·have h1:aS (p.num*q.den).natAbs≤k+l:=by
   rw [Int.natAbs_mul]; exact Nat.le_trans (xx _ _) (Nat.add_le_add hp.1 hq.2)
  have J:aS (q.num*p.den).natAbs≤k+l:=by
   rw [Int.natAbs_mul]; exact Nat.le_trans (xx _ _) (by rw [Nat.add_comm k]; exact Nat.add_le_add hq.1 hp.2)
  exact Nat.le_trans (iT (Int.natAbs_add_le _ _)) (Ox h1 J)
 ·exact Nat.le_trans (xx _ _) (Nat.le_succ_of_le (Nat.add_le_add hp.2 hq.2))
theorem QB.neg {p:Rat} {k:Nat} (hp:QB p k):QB (-p) k:=⟨by rw [Rat.neg_num,Int.natAbs_neg]; exact hp.1,hp.2⟩
theorem QB.sub {p q:Rat} {k l:Nat} (hp:QB p k) (hq:QB q l):QB (p - q) (k+l+1):=by
 rw [Rat.sub_eq_add_neg]; exact hp.add hq.neg
theorem QB.mul {p q:Rat} {k l:Nat} (hp:QB p k) (hq:QB q l):QB (p*q) (k+l):=by
 rw [Rat.mul_def'];refine QB.mk (Nat.mul_ne_zero p.den_nz q.den_nz) ?_ (Nat.le_trans (xx _ _) (Nat.add_le_add hp.2 hq.2));rw [Int.natAbs_mul]; exact Nat.le_trans (xx _ _) (Nat.add_le_add hp.1 hq.1)
theorem RV.qb {i:RV} {k:Nat} (h1:i.2.1.size≤k) (J:i.2.2.size≤k) (hk:1≤k):QB i.q k:=by
 refine QB.mk i.jQ ?_ ?_
 ·unfold RV.n;rw [uA];exact Nat.le_trans (jh _) h1
 ·unfold RV.d
  split
  ·exact Nat.le_trans (gR (show 1 < C ^ 1 by decide)) hk
  ·exact Nat.le_trans (jh _) J
theorem MR {d k:Nat} (h:aS d≤k):(fw d).size≤k:=by
 unfold fw
 split
 ·exact Nat.zero_le _
 ·rw [gG]; exact h
theorem RV.sW {q:Rat} (h:QB q 8589934592):(RV.of q).ok:=⟨by show (nb _).size≤_; rw [gG]; exact h.1,MR h.2⟩
open Go
def x4 (n d:IV):Value:=.agg ⟨[.bool n.1,.string n.2,.bool d.1,.string d.2]⟩
def g8:bC:={ ι:=IV × Int,args:=fun i=>[i.1.v,.int .i64 i.2],pre:=fun i=>i.1.ok∧-9223372036854775808≤i.2∧i.2 < 9223372036854775808,val:=fun i=>.bool (decide (i.1.z=i.2)) }
def NF:bC:={ ι:=IV,args:=fun i=>[.bool i.1,.string i.2],pre:=fun _=>True,val:=fun i=>i.v }
def RV.den (i:RV):ByteArray:=if ab i.2.2=0 then nb 1 else i.2.2
def lU:bC:={ ι:=RV,args:=fun i=>[i.v],pre:=fun i=>i.2.2.size≤549755813888,val:=fun i=>x4 (i.1,i.2.1) (false,i.den) }
def o4:bC:={ ι:=IV × IV,args:=fun i=>[x4 i.1 i.2],pre:=fun i=>i.1.ok∧i.2.ok∧0 < i.2.z,val:=fun i=>bH (mkRat i.1.z i.2.z.natAbs) }
def qA:bC:={ ι:=IV × IV,args:=fun i=>[i.1.v,i.2.v],pre:=fun i=>i.1.ok∧i.2.ok∧0 < i.2.z,val:=fun i=>bH (mkRat i.1.z i.2.z.natAbs) }
def RV.fV (i:RV):Prop:=i.2.1.size≤3∧i.2.2.size≤3
instance (i:RV):Decidable i.fV:=inferInstanceAs (Decidable (_∧_))
def bD:bC:={ ι:=RV,args:=fun i=>[i.v],pre:=fun _=>True,val:=fun i=>.tuple ⟨[.int .i64 (if i.fV then i.n else 0),.int .i64 (if i.fV then (i.d:Int) else 0),.bool (decide i.fV)]⟩ }
def sX:bC:={ ι:=Nat,args:=fun n=>[.int .i64 n],pre:=fun n=>n < 72057594037927936,val:=fun n=>.string (nb n) }
def nW:bC:={ ι:=Int × Nat,args:=fun i=>[.int .i64 i.1,.int .i64 i.2],pre:=fun i=>i.1.natAbs < 72057594037927936∧i.2≠0∧i.2 < 72057594037927936,val:=fun i=>bH (mkRat i.1 i.2) }
def nX:bC:={ ι:=RV,args:=fun i=>[i.v],pre:=RV.ok,val:=fun i=>.tuple ⟨[aG i.n,aG i.d]⟩ }
abbrev nK:=RV × RV
def nK.ok (i:nK):Prop:=i.1.ok∧i.2.ok
def aZ (p q:Rat):Int:=if p < q then -1 else if q < p then 1 else 0
def iK:bC:={ ι:=nK,args:=fun i=>[i.1.v,i.2.v],pre:=nK.ok,val:=fun i=>bH (i.1.q+i.2.q) }
def gW:bC:={ ι:=nK,args:=fun i=>[i.1.v,i.2.v],pre:=nK.ok,val:=fun i=>bH (i.1.q - i.2.q) }
def lK:bC:={ ι:=nK,args:=fun i=>[i.1.v,i.2.v],pre:=nK.ok,val:=fun i=>bH (i.1.q*i.2.q) }
def jR:bC:={ ι:=nK,args:=fun i=>[i.1.v,i.2.v],pre:=nK.ok,val:=fun i=>.int .i64 (aZ i.1.q i.2.q) }
def zH:bC:={ ι:=RV,args:=fun i=>[i.v],pre:=RV.ok,val:=fun i=>bH i.q }
def mL:bC:={ ι:=Int,args:=fun n=>[.int .i64 n],pre:=fun n=>-9223372036854775808≤n∧n < 9223372036854775808,val:=fun n=>bH (n:Rat) }
theorem RV.HE {i:RV} (h:i.fV):-16777216 < i.n∧i.n < 16777216:=by
 have h1:=gx i.2.1;have J:C ^ i.2.1.size≤C ^ 3:=Nat.pow_le_pow_right (by decide) h.1
 have h3:ab i.2.1 < 16777216:=Nat.lt_of_lt_of_le h1 J;unfold RV.n;unfold a9
 split <;> omega
theorem RV.HF {i:RV} (h:i.fV):0 < i.d∧i.d < 16777216:=by
 have h1:=gx i.2.2;have J:C ^ i.2.2.size≤C ^ 3:=Nat.pow_le_pow_right (by decide) h.2
 have h3:ab i.2.2 < 16777216:=Nat.lt_of_lt_of_le h1 J;unfold RV.d
 split <;> omega
theorem RV.jS (i:RV):IV.z (false,i.den)=((i.d:Nat):Int):=by
 show ((ab i.den:Nat):Int)=_
 unfold RV.den RV.d
 split
 ·rw [ij]
 ·rfl
theorem RV.ss (i:RV):i.den.size≤i.2.2.size+1:=by
 unfold RV.den
 split
 ·exact Nat.le_trans HB (Nat.le_add_left _ _)
 ·exact Nat.le_succ _
theorem RV.ae6 (i:RV):i.q=mkRat i.n (IV.z (false,i.den)).natAbs:=by rw [RV.jS]; rfl
theorem Lj {a b:Int} (h1:-16777216 < a∧a < 16777216) (J:0 < b∧b < 16777216):-281474976710656 < a*b∧a*b < 281474976710656:=by
 have h3:(a*b).natAbs≤16777215*16777215:=by
  rw [Int.natAbs_mul];exact Nat.mul_le_mul (by omega) (by omega)
 omega
theorem Ig (a b:RV):a.q+b.q=mkRat (a.n*b.d+b.n*a.d) (a.d*b.d):=Rat.mkRat_add_mkRat _ _ a.jQ b.jQ
theorem Ih (a b:RV):a.q*b.q=mkRat (a.n*b.n) (a.d*b.d):=Rat.mkRat_mul_mkRat _ _ _ _
theorem y9 (i:RV):i.q=(i.n:Rat) / ((i.d:Nat):Rat):=Rat.mkRat_eq_div _ _
theorem natCast_pos {d:Nat} (h:d≠0):(0:Rat) < ((d:Nat):Rat):=by
 have:((0:Nat):Rat) < ((d:Nat):Rat):=Rat.natCast_lt_natCast.2 (by omega)
 exact this
theorem ae7 (a b:RV):a.q < b.q↔a.n*b.d < b.n*a.d:=by
 have ha:=natCast_pos a.jQ;have hb:=natCast_pos b.jQ;have e:a.q < b.q↔(a.n:Rat)*((b.d:Nat):Rat) < (b.n:Rat)*((a.d:Nat):Rat):=by
  rw [y9,y9,Rat.div_lt_iff ha];rw [show (b.n:Rat) / ((b.d:Nat):Rat)*((a.d:Nat):Rat)=((b.n:Rat)*((a.d:Nat):Rat)) / ((b.d:Nat):Rat) by
   rw [Rat.div_def,Rat.div_def]; grind]
  rw [Rat.lt_div_iff hb]
 rw [e,← Rat.intCast_natCast,← Rat.intCast_natCast,← Rat.intCast_mul,← Rat.intCast_mul,Rat.intCast_lt_intCast]
theorem Dy (a b:RV):aZ a.q b.q=dU (a.n*b.d) (b.n*a.d):=by
 unfold aZ dU;simp only [ae7]
theorem adu (i:RV):-i.q=RV.q (!i.1,i.2):=by
 show -mkRat i.n i.d=mkRat (a9 (!i.1) (ab i.2.1)) i.d
 rw [Gu,Rat.neg_mkRat]
 rfl
theorem iz (n:Int):((n:Int):Rat)=mkRat n 1:=by
 have h:=Rat.mkRat_self ((n:Int):Rat);rw [Rat.num_intCast,Rat.den_intCast] at h;exact h.symm
theorem QQ {n e:Nat} (k:Int) (hk:k=((8*e:Nat):Int)) (he:e≤7):Int.fdiv (n:Int) (2 ^ min (Int.toNat k) IntKind.i64.bits)=((n / C ^ e:Nat):Int):=by
 subst hk;have e1:min (Int.toNat ((8*e:Nat):Int)) IntKind.i64.bits=8*e:=by
  show min (8*e) 64=8*e
  omega
 rw [e1];have e2:(2:Int) ^ (8*e)=((C ^ e:Nat):Int):=by
  rw [show C=2 ^ 8 from rfl,← Nat.pow_mul,Int.natCast_pow]; rfl
 rw [e2,Int.fdiv_eq_ediv_of_nonneg _ (Int.natCast_nonneg _),Int.natCast_ediv]
theorem adv {n:Nat} (h:n < 72057594037927936):n / C ^ 7=0:=Nat.div_eq_of_lt h
theorem Ye {P d m:Nat} (h:P < C ^ m) (hd:d < 256):P*256+d < C ^ (m+1):=by
 rw [Nat.pow_succ];show _ < C ^ m*256
 omega
theorem Yf {P d m:Nat} (h:C ^ (m - 1)≤P) (hm:1≤m):C ^ (m+1 - 1)≤P*256+d:=by
 rw [show m+1 - 1=m - 1+1 by omega,Nat.pow_succ]
 show C ^ (m - 1)*256≤_
 omega
theorem MS {P Q D m:Nat} {g:Nat→List Value} (h:P=Q*256+D) (hD:D < 256) (hg:∀ r,r < m→g r=[.int .u8 ((Q / C ^ (m - 1 - r) % C:Nat):Int)]) (r:Nat) (hr:r < m+1) :
  iH g m (fun j=>[[Value.int .u8 ((P % C:Nat):Int)]].getD j []) r=[.int .u8 ((P / C ^ (m+1 - 1 - r) % C:Nat):Int)]:=by
 by_cases h1:r < m
 ·rw [ji h1,hg r h1,show m+1 - 1 - r=(m - 1 - r)+1 by omega,Nat.pow_succ,Nat.mul_comm (C ^ _) C,← Nat.div_div_eq_div_mul,show P / C=Q by rw [h]; show (Q*256+D) / 256=Q; omega]
 ·obtain rfl:r=m:=by omega
  rw [gw (Nat.le_refl _),Nat.sub_self,show r+1 - 1 - r=0 by omega,Nat.pow_zero,Nat.div_one]
  rfl
theorem G6 {n:Int} {d g:Nat} (hn:n≠0) (hd:d≠0) (hg:g=Int.gcd n d):bH (mkRat n d)=.agg ⟨[.bool (decide (n < 0)),.string (nb (n.natAbs / g)),.string (fw (d / g))]⟩:=by
 have nL:0 < g:=by
  rw [hg]; exact Int.gcd_pos_of_ne_zero_left _ hn
 have e1:(mkRat n d).num=n / (g:Int):=by rw [← HC n hd,← hg,Int.fdiv_eq_ediv_of_nonneg _ (by omega)]
 have e2:(mkRat n d).den=d / g:=by
  have:=HD n hd;rw [← hg,Int.fdiv_eq_ediv_of_nonneg _ (by omega),← Int.natCast_ediv] at this
  exact (Int.ofNat_inj.1 this).symm
 have EG:(g:Int) ∣ n:=by rw [hg]; exact Int.gcd_dvd_left ..
 obtain ⟨q,hq⟩:=EG;have e3:n / (g:Int)=q:=by rw [hq]; exact Int.mul_ediv_cancel_left _ (by omega)
 have e4:n.natAbs / g=q.natAbs:=by
  rw [hq,Int.natAbs_mul,Int.natAbs_natCast]; exact Nat.mul_div_cancel_left _ nL
 have e5:n < 0↔q < 0:=by
  rw [hq];constructor
  ·intro h;rcases Int.lt_or_le q 0 with J | J
   ·exact J
   ·have:=Int.mul_nonneg (show (0:Int)≤g by omega) J
    omega
  ·intro h; exact Int.mul_neg_of_pos_of_neg (by omega) h
 unfold bH;rw [e1,e2,e3,e4];rw [show decide (n < 0)=decide (q < 0) from by simp only [e5]]
theorem yW (d:Nat):bH (mkRat 0 d)=.agg ⟨[.bool false,.string ⟨#[]⟩,.string ⟨#[]⟩]⟩:=by
 rw [Rat.zero_mkRat];show Value.agg ⟨[.bool false,.string (nb 0),.string (fw 1)]⟩=_
 rw [oZ]
 rfl
theorem WO {a b:Int}:Int.gcd b (a.tmod b)=Int.gcd a b:=by
 show Nat.gcd b.natAbs (a.tmod b).natAbs=Nat.gcd a.natAbs b.natAbs
 rw [Int.natAbs_tmod,Nat.gcd_comm,← Nat.gcd_rec,Nat.gcd_comm]
theorem Oy (a:Int) (h:-72057594037927936 < a∧a < 72057594037927936):(if IntKind.i64.wrap (0 - a) > a then IntKind.i64.wrap (0 - a) else a)=((a.natAbs:Nat):Int):=by
 rw [ax (x:=0 - a) (by omega) (by omega)]
 split <;> omega
theorem B9 {a g:Nat} (h:a < 72057594037927936):IntKind.i64.wrap (Int.tdiv (a:Int) (g:Int))=((a / g:Nat):Int):=by
 rw [Gt]; exact ND (Nat.lt_of_le_of_lt (Nat.div_le_self _ _) h)
theorem Bx {n:Int} {d g:Nat} (hd:d≠0) (hg:g=Int.gcd n d):(d / g=1↔d=g)∧1≤d / g∧g≠0:=by
 have EG:g ∣ d:=by
  have:((g:Nat):Int) ∣ (d:Int):=by rw [hg]; exact Int.gcd_dvd_right ..
  exact Int.natCast_dvd_natCast.1 this
 have nL:0 < g:=Nat.pos_of_dvd_of_pos EG (Nat.pos_of_ne_zero hd);obtain ⟨q,rfl⟩:=EG;rw [Nat.mul_div_cancel_left _ nL];have hq:q≠0:=by intro e; subst e; exact hd (Nat.mul_zero _)
 refine ⟨⟨fun h=>by rw [h,Nat.mul_one],fun h=>?_⟩,by omega,by omega⟩
 have:g*q=g*1:=by rw [Nat.mul_one]; exact h
 exact Nat.eq_of_mul_eq_mul_left nL this
theorem r0:-9223372036854775808≤(0:Int)∧(0:Int) < 9223372036854775808:=by decide
theorem r1:-9223372036854775808≤(1:Int)∧(1:Int) < 9223372036854775808:=by decide
theorem uK {n:Int} (h:-9223372036854775808≤n∧n < 9223372036854775808):aS n.natAbs≤8:=gR (Nat.lt_of_le_of_lt (show n.natAbs≤9223372036854775808 by omega) (by decide))
theorem Lk (n e:Nat):n / C ^ e=n / C ^ (e+1)*256+n / C ^ e % 256:=by
 have:=Fe n e;omega
abbrev I4:=(Int × Nat) × (Int × Nat)
def I4.args (i:I4):List Value:=[.int .i64 i.1.1,.int .i64 i.1.2,.int .i64 i.2.1,.int .i64 i.2.2]
def jT (i:Int × Nat):Prop:=(-16777216 < i.1∧i.1 < 16777216)∧0 < i.2∧i.2 < 16777216
def I4.ok (i:I4):Prop:=jT i.1∧jT i.2
def Dz:bC:={ ι:=I4,args:=I4.args,pre:=I4.ok,val:=fun i=>bH (mkRat (i.1.1*i.2.2+i.2.1*i.1.2) (i.1.2*i.2.2)) }
def DA:bC:={ ι:=I4,args:=I4.args,pre:=I4.ok,val:=fun i=>bH (mkRat (i.1.1*i.2.1) (i.1.2*i.2.2)) }
def z7:bC:={ ι:=I4,args:=I4.args,pre:=I4.ok,val:=fun i=>.int .i64 (dU (i.1.1*i.2.2) (i.2.1*i.1.2)) }
abbrev FV:=(IV × IV) × (IV × IV)
def FV.args (i:FV):List Value:=[x4 i.1.1 i.1.2,x4 i.2.1 i.2.2]
def mz (i:IV × IV):Prop:=(i.1.2.size≤17179869184∧i.2.2.size≤17179869184)∧0 < i.2.z
def FV.ok (i:FV):Prop:=mz i.1∧mz i.2
def x5:bC:={ ι:=FV,args:=FV.args,pre:=FV.ok,val:=fun i=>bH (mkRat (i.1.1.z*i.2.2.z+i.2.1.z*i.1.2.z) (i.1.2.z*i.2.2.z).natAbs) }
def x6:bC:={ ι:=FV,args:=FV.args,pre:=FV.ok,val:=fun i=>bH (mkRat (i.1.1.z*i.2.1.z) (i.1.2.z*i.2.2.z).natAbs) }
def x7:bC:={ ι:=FV,args:=FV.args,pre:=FV.ok,val:=fun i=>.int .i64 (dU (i.1.1.z*i.2.2.z) (i.2.1.z*i.1.2.z)) }
theorem I4.bounds {i:I4} (h:i.ok):(-281474976710656 < i.1.1*i.2.2∧i.1.1*i.2.2 < 281474976710656)∧(-281474976710656 < i.2.1*i.1.2∧i.2.1*i.1.2 < 281474976710656)∧(-281474976710656 < i.1.1*i.2.1∧i.1.1*i.2.1 < 281474976710656)∧0 < i.1.2*i.2.2∧i.1.2*i.2.2 < 281474976710656:=by
 obtain ⟨⟨h1,J⟩,h3,h4⟩:=h;refine ⟨Lj h1 ⟨by omega,by omega⟩,Lj h3 ⟨by omega,by omega⟩,?_,Nat.mul_pos J.1 h4.1,?_⟩
 ·have:(i.1.1*i.2.1).natAbs≤16777215*16777215:=by
   rw [Int.natAbs_mul];exact Nat.mul_le_mul (by omega) (by omega)
  omega
 ·have:i.1.2*i.2.2≤16777215*16777215:=Nat.mul_le_mul (by omega) (by omega)
  omega
theorem EI.gF {x y:Int} {B:Bool} {m:ByteArray} {k l:Nat} (h:EI (x*y) B m) (hx:aS x.natAbs≤k) (hy:aS y.natAbs≤l):m.size≤k+l:=by
 rw [h.size,Int.natAbs_mul];exact Nat.le_trans (xx _ _) (Nat.add_le_add hx hy)
theorem EI.Gz {x y:Int} {B:Bool} {m:ByteArray} {k:Nat} (h:EI (x+y) B m) (hx:aS x.natAbs≤k) (hy:aS y.natAbs≤k):m.size≤k+1:=by
 rw [h.size];exact Nat.le_trans (iT (Int.natAbs_add_le _ _)) (Ox hx hy)
theorem dK {b:Bool} {s:ByteArray} {k:Nat} (h:s.size≤k):aS (IV.z (b,s)).natAbs≤k:=by
 unfold IV.z;rw [uA];exact Nat.le_trans (jh s) h
theorem RV.jT {i:RV} (h:i.fV):Go.Ae.jT (i.n,i.d):=⟨i.HE h,i.HF h⟩
theorem RV.mz {i:RV} (h:i.ok):Go.Ae.mz ((i.1,i.2.1),(false,i.den)):=⟨⟨by have:=h.1; show i.2.1.size≤_; omega,by have:=i.ss; have:=h.2; show i.den.size≤_; omega⟩,by
 show 0 < IV.z (false,i.den)
 rw [RV.jS];have:=i.jQ;omega⟩
theorem aaW (a b:RV):Dz.val ((a.n,a.d),(b.n,b.d))=bH (a.q+b.q):=by rw [Ig]; rfl
theorem aaX (a b:RV):DA.val ((a.n,a.d),(b.n,b.d))=bH (a.q*b.q):=by rw [Ih]; rfl
theorem aaY (a b:RV):z7.val ((a.n,a.d),(b.n,b.d))=.int .i64 (aZ a.q b.q):=by rw [Dy]; rfl
theorem Ll (a b:RV):(IV.z (false,a.den)*IV.z (false,b.den)).natAbs=a.d*b.d:=by
 rw [RV.jS,RV.jS,← Int.natCast_mul,Int.natAbs_natCast]
theorem aaZ (a b:RV):x5.val (((a.1,a.2.1),(false,a.den)),((b.1,b.2.1),(false,b.den)))=bH (a.q+b.q):=by
 show bH (mkRat (IV.z (a.1,a.2.1)*IV.z (false,b.den)+IV.z (b.1,b.2.1)*IV.z (false,a.den)) (IV.z (false,a.den)*IV.z (false,b.den)).natAbs)=_
 rw [Ll,RV.jS,RV.jS,Ig]
 rfl
theorem aa0 (a b:RV):x6.val (((a.1,a.2.1),(false,a.den)),((b.1,b.2.1),(false,b.den)))=bH (a.q*b.q):=by
 show bH (mkRat (IV.z (a.1,a.2.1)*IV.z (b.1,b.2.1)) (IV.z (false,a.den)*IV.z (false,b.den)).natAbs)=_
 rw [Ll,Ih]
 rfl
theorem aa1 (a b:RV):x7.val (((a.1,a.2.1),(false,a.den)),((b.1,b.2.1),(false,b.den)))=.int .i64 (aZ a.q b.q):=by
 show Value.int .i64 (dU (IV.z (a.1,a.2.1)*IV.z (false,b.den)) (IV.z (b.1,b.2.1)*IV.z (false,a.den)))=_
 rw [RV.jS,RV.jS,Dy]
 rfl
open Go
def iJ:bC:={ ι:=RV,args:=fun i=>[i.v],pre:=RV.ok,val:=fun i=>.int .i64 (aZ i.q 0) }
def mY:bC:={ ι:=RV,args:=fun i=>[i.v],pre:=RV.ok,val:=fun i=>.int .i64 (if i=RV.of i.q then 0 else 1) }
def lV (n d:Int):Value:=.tuple ⟨[bH (Rat.divInt n d),.int .i64 (if d=0 then 10 else 0)]⟩
def vk:bC:={ ι:=kC,args:=fun i=>[i.1.v,i.2.v],pre:=kC.ok,val:=fun i=>lV i.1.z i.2.z }
def G7:bC:={ ι:=Int × Int,args:=fun i=>[.int .i64 i.1,.int .i64 i.2],pre:=fun i=>(-9223372036854775808≤i.1∧i.1 < 9223372036854775808)∧-9223372036854775808≤i.2∧i.2 < 9223372036854775808,val:=fun i=>lV i.1 i.2 }
theorem aa2 (i:RV):aZ i.q 0=dU i.n 0:=by
 have h:=Dy i (RV.of 0);rw [RV.iz,RV.QO,RV.QP] at h;rw [h];show dU (i.n*1) (0*_)=_
 rw [Int.mul_one,Int.zero_mul]
theorem wH (i j:RV):eL [.bool i.1,.string i.2.1,.string i.2.2] [.bool j.1,.string j.2.1,.string j.2.2]=decide (i=j):=by
 obtain ⟨a,b,c⟩:=i;obtain ⟨a',b',c'⟩:=j;simp only [eL,Bool.and_true,qF];by_cases h1:a=a' <;> by_cases J:b=b' <;> by_cases h3:c=c' <;> simp [h1,J,h3]
theorem LZ {n d:Int} (h:0 < d):Rat.divInt n d=mkRat n d.natAbs:=by
 obtain ⟨k,rfl⟩:∃ k:Nat,d=k:=⟨d.natAbs,by omega⟩
 rw [Rat.divInt_ofNat,Int.natAbs_natCast]
theorem Ty {n d:Int} (h:d < 0):Rat.divInt n d=mkRat (-n) (-d).natAbs:=by
 rw [← Rat.neg_divInt_neg,LZ (by omega)]
theorem Pk (b:Bool) (s t:ByteArray):RV.q (!b,s,t)=-RV.q (b,s,t):=(adu (b,s,t)).symm
theorem adw:bH 0=.agg ⟨[.bool false,.string ⟨#[]⟩,.string ⟨#[]⟩]⟩:=by
 have:=yW 1
 rwa [Rat.zero_mkRat] at this
def QR (q:Rat):Rat:=if q < 0 then -q else q
def RV.z8 (i:RV):Prop:=60 < i.2.1.size∨60 < i.2.2.size
instance (i:RV):Decidable i.z8:=inferInstanceAs (Decidable (_∨_))
theorem uB {p q:Rat}:aZ p q > 0↔q < p:=by
 unfold aZ
 split
 ·rename_i h;constructor
  ·intro J; exact absurd J (by decide)
  ·intro J; grind
 ·split
  ·exact ⟨fun _=>by assumption,fun _=>by decide⟩
  ·exact ⟨fun h=>absurd h (by decide),fun h=>by contradiction⟩
theorem GA {p q:Rat}:aZ p q < 0↔p < q:=by
 unfold aZ
 split
 ·exact ⟨fun _=>by assumption,fun _=>by decide⟩
 ·split
  ·exact ⟨fun h=>absurd h (by decide),fun h=>by contradiction⟩
  ·exact ⟨fun h=>absurd h (by decide),fun h=>by contradiction⟩
theorem ae8:nb 1=⟨#[1]⟩:=by
 rw [x0 (n:=1) (by decide) (.inr (by decide))]
 rfl
open Go
abbrev PV:=RV × RV
def PV.cells (p:PV):List Value:=[.bool p.1.1,.string p.1.2.1,.string p.1.2.2,.bool p.2.1,.string p.2.2.1,.string p.2.2.2]
def PV.v (p:PV):Value:=.agg ⟨[.bool p.1.1,.string p.1.2.1,.string p.1.2.2,.bool p.2.1,.string p.2.2.1,.string p.2.2.2]⟩
def mM (x y:Rat):Value:=PV.v (RV.of x,RV.of y)
def RV.sz (k:Nat) (i:RV):Prop:=i.2.1.size≤k∧i.2.2.size≤k
def PV.sz (k:Nat) (p:PV):Prop:=p.1.sz k∧p.2.sz k
theorem RV.bJ {k:Nat} {i:RV} (h:i.sz k) (hk:k≤8589934592):i.ok:=⟨Nat.le_trans h.1 hk,Nat.le_trans h.2 hk⟩
theorem RV.aO {k l:Nat} {i:RV} (h:i.sz k) (hk:k≤l):i.sz l:=⟨Nat.le_trans h.1 hk,Nat.le_trans h.2 hk⟩
theorem PV.aO {k l:Nat} {i:PV} (h:i.sz k) (hk:k≤l):i.sz l:=⟨RV.aO h.1 hk,RV.aO h.2 hk⟩
theorem RV.mB {q:Rat} {k:Nat} (h:QB q k):(RV.of q).sz k:=⟨by show (nb _).size≤_; rw [gG]; exact h.1,MR h.2⟩
theorem RV.jf {i:RV} {k:Nat} (h:i.sz k) (hk:1≤k):QB i.q k:=RV.qb h.1 h.2 hk
def lW (a b:Rat):Rat:=if a < b then b else a
def lX (a b:Rat):Rat:=if b < a then b else a
def ae9 (a b:PV):Int:=if aZ a.1.q b.1.q≠0 then aZ a.1.q b.1.q else aZ a.2.q b.2.q
abbrev oE:=PV × PV
def v8:Int→Prop:=fun n=>-9223372036854775808≤n∧n < 9223372036854775808
def rf:bC:={ ι:=Int × Int,args:=fun i=>[.int .i64 i.1,.int .i64 i.2],pre:=fun i=>v8 i.1∧v8 i.2,val:=fun i=>mM (i.1:Rat) (i.2:Rat) }
def JZ (i:oE):Prop:=i.1.sz 8589934592∧i.2.sz 8589934592
def Ii:bC:={ ι:=oE,args:=fun i=>[i.1.v,i.2.v],pre:=JZ,val:=fun i=>mM (i.1.1.q+i.2.1.q) (i.1.2.q+i.2.2.q) }
def kQ:bC:={ ι:=oE,args:=fun i=>[i.1.v,i.2.v],pre:=JZ,val:=fun i=>mM (i.1.1.q - i.2.1.q) (i.1.2.q - i.2.2.q) }
def G8:bC:={ ι:=PV × RV,args:=fun i=>[i.1.v,i.2.v],pre:=fun i=>i.1.sz 8589934592∧i.2.sz 8589934592,val:=fun i=>mM (i.1.1.q*i.2.q) (i.1.2.q*i.2.q) }
def afa (i:oE):Prop:=i.1.sz 1073741824∧i.2.sz 1073741824
def aa3 (p q:PV):Rat:=p.1.q*q.2.q - p.2.q*q.1.q
def nS:bC:={ ι:=oE,args:=fun i=>[i.1.v,i.2.v],pre:=afa,val:=fun i=>bH (aa3 i.1 i.2) }
def PV.canon (p:PV):Prop:=p.1=RV.of p.1.q∧p.2=RV.of p.2.q
instance (p:PV):Decidable p.canon:=inferInstanceAs (Decidable (_∧_))
def j8:bC:={ ι:=PV,args:=fun i=>[i.v],pre:=fun i=>i.sz 8589934592,val:=fun i=>.int .i64 (if i.canon then 0 else 1) }
def pE:bC:={ ι:=oE,args:=fun i=>[i.1.v,i.2.v],pre:=JZ,val:=fun i=>.int .i64 (ae9 i.1 i.2) }
def afb (i:oE):Prop:=i.1.sz 268435456∧i.2.sz 268435456
def yk:bC:={ ι:=oE × RV,args:=fun i=>[i.1.1.v,i.1.2.v,i.2.v],pre:=fun i=>afb i.1∧i.2.sz 268435456,val:=fun i=>mM (i.1.1.1.q+(i.1.2.1.q - i.1.1.1.q)*i.2.q) (i.1.1.2.q+(i.1.2.2.q - i.1.1.2.q)*i.2.q) }
def PV.z8 (p:PV):Prop:=p.1.z8∨p.2.z8
instance (p:PV):Decidable p.z8:=inferInstanceAs (Decidable (_∨_))
theorem L4 (p q:PV):eL p.cells q.cells=decide (p=q):=by
 obtain ⟨⟨a,b,c⟩,⟨d,e,f⟩⟩:=p;obtain ⟨⟨a',b',c'⟩,⟨d',e',f'⟩⟩:=q;simp only [PV.cells,eL,Bool.and_true,qF];by_cases h1:a=a' <;> by_cases J:b=b' <;> by_cases h3:c=c' <;> by_cases h4:d=d' <;> by_cases h5:e=e' <;> by_cases h6:f=f' <;> simp [h1,J,h3,h4,h5,h6]
def RV.cells (i:RV):List Value:=[.bool i.1,.string i.2.1,.string i.2.2]
def cW (l:List PV):Nat→List Value:=fun r=>(l.getD r ((false,⟨#[]⟩,⟨#[]⟩),(false,⟨#[]⟩,⟨#[]⟩))).cells
theorem GB {o:Bool} {n k:Nat} {g:Nat→List Value} {rows:List (List Value)} (h1:rows.length=n) (J:∀ r,r < n→rows.getD r []=g r) (h3:∀ r,r < n→mG (g r)=true):aH (.flat false n k g) (.aP o k rows) :=
 ⟨(fun h=>by cases h),rfl,by show n≤rows.length; omega,fun r hr=>by
  show g r=rows.getD r []
  exact (J r hr).symm,fun r hr v hv=>dI (h3 r hr) v hv⟩
theorem L5 (l:List PV) (r:Nat):mG (cW l r)=true:=rfl
open Go
theorem r9 {l:List PV} {i:Nat} (h:i < l.length):∃ p,l[i]?=some p∧p∈l∧cW l i=p.cells:=by
 refine ⟨l[i],List.getElem?_eq_getElem h,List.getElem_mem h,?_⟩;unfold cW;rw [List.getD_eq_getElem?_getD,List.getElem?_eq_getElem h]
 rfl
theorem WQ {p q:Rat}:aZ p q=1↔q < p:=by
 unfold aZ
 split
 ·rename_i h;exact ⟨fun J=>absurd J (by decide),fun J=>by grind⟩
 ·split
  ·exact ⟨fun _=>by assumption,fun _=>rfl⟩
  ·exact ⟨fun h=>absurd h (by decide),fun h=>by contradiction⟩
theorem VE {p q:Rat}:aZ p q=-1↔p < q:=by
 unfold aZ
 split
 ·exact ⟨fun _=>by assumption,fun _=>rfl⟩
 ·split
  ·exact ⟨fun h=>absurd h (by decide),fun h=>by contradiction⟩
  ·exact ⟨fun h=>absurd h (by decide),fun h=>by contradiction⟩
theorem QB.max {p q:Rat} {k:Nat} (hp:QB p k) (hq:QB q k):QB (lW p q) k:=by
 unfold lW; split <;> assumption
theorem QB.min {p q:Rat} {k:Nat} (hp:QB p k) (hq:QB q k):QB (lX p q) k:=by
 unfold lX; split <;> assumption
theorem QB.abs {p:Rat} {k:Nat} (hp:QB p k):QB (QR p) k:=by
 unfold QR; split
 ·exact hp.neg
 ·exact hp
abbrev XV:=PV × PV
def XV.v (b:XV):Value:=.agg ⟨[.bool b.1.1.1,.string b.1.1.2.1,.string b.1.1.2.2,.bool b.1.2.1,.string b.1.2.2.1,.string b.1.2.2.2,.bool b.2.1.1,.string b.2.1.2.1,.string b.2.1.2.2,.bool b.2.2.1,.string b.2.2.2.1,.string b.2.2.2.2]⟩
def XV.cells (b:XV):List Value:=[.bool b.1.1.1,.string b.1.1.2.1,.string b.1.1.2.2,.bool b.1.2.1,.string b.1.2.2.1,.string b.1.2.2.2,.bool b.2.1.1,.string b.2.1.2.1,.string b.2.1.2.2,.bool b.2.2.1,.string b.2.2.2.1,.string b.2.2.2.2]
def P5 (b:XV) (p:PV):Prop:=b.1.1.q≤p.1.q∧p.1.q≤b.2.1.q∧b.1.2.q≤p.2.q∧p.2.q≤b.2.2.q
instance (b:XV) (p:PV):Decidable (P5 b p):=inferInstanceAs (Decidable (_∧_∧_∧_))
def WR:bC:={ ι:=XV × PV,args:=fun i=>[i.1.v,i.2.v],pre:=fun i=>(i.1.1.sz 268435456∧i.1.2.sz 268435456)∧i.2.sz 268435456,val:=fun i=>.bool (decide (P5 i.1 i.2)) }
theorem xy {p q:Rat}:aZ p q≤0↔p≤q:=by
 have:=uB (p:=p) (q:=q);constructor
 ·intro h; have:¬ q < p:=fun e=>by have:=this.2 e; omega
  grind
 ·intro h; have:¬ aZ p q > 0:=fun e=>by have:=this.1 e; grind
  omega
theorem lC {p q:Rat}:aZ p q ≥ 0↔q≤p:=by
 have:=GA (p:=p) (q:=q);constructor
 ·intro h; have:¬ p < q:=fun e=>by have:=this.2 e; omega
  grind
 ·intro h; have:¬ aZ p q < 0:=fun e=>by have:=this.1 e; grind
  omega
open Go
def qR:bC:={ ι:=nK,args:=fun i=>[i.1.v,i.2.v],pre:=nK.ok,val:=fun i=>.tuple ⟨[bH (i.1.q / i.2.q),.int .i64 (if i.2.q=0 then 10 else 0)]⟩ }
theorem Up (b:RV):b.q=0↔b.n=0:=by
 have hb:=natCast_pos b.jQ;rw [y9,Rat.div_def];constructor
 ·intro h;rcases Rat.mul_eq_zero.1 h with h | h
  ·exact_mod_cast h
  ·exfalso;have J:((b.d:Nat):Rat)*((b.d:Nat):Rat)⁻¹=1:=Rat.mul_inv_cancel _ (by grind)
   rw [h] at J;grind
 ·intro h;rw [h];simp
theorem adx (a b:RV):lV (a.n*b.d) (a.d*b.n)=.tuple ⟨[bH (a.q / b.q),.int .i64 (if b.q=0 then 10 else 0)]⟩:=by
 have ha:=natCast_pos a.jQ;have hb:=natCast_pos b.jQ;have e1:Rat.divInt (a.n*b.d) (a.d*b.n)=a.q / b.q:=by
  rw [Rat.divInt_eq_div,y9 a,y9 b,Rat.intCast_mul,Rat.intCast_mul,Rat.intCast_natCast,Rat.intCast_natCast];by_cases h:(b.n:Rat)=0
  ·rw [h]; simp [Rat.div_def]
  ·grind
 have e2:((a.d:Int)*b.n=0)↔b.q=0:=by
  rw [Up];constructor
  ·intro h;rcases Int.mul_eq_zero.1 h with h | h
   ·have:=a.jQ; omega
   ·exact h
  ·intro h; rw [h]; simp
 unfold lV;rw [e1];simp only [e2]
open Go
theorem RO (i:RV):eL [.bool i.1,.string i.2.1,.string i.2.2] [.bool i.1,.string i.2.1,.string i.2.2]=true:=by
 rw [wH i i]; exact decide_eq_true rfl
theorem eqP (p:PV):eL [.bool p.1.1,.string p.1.2.1,.string p.1.2.2,.bool p.2.1,.string p.2.2.1,.string p.2.2.2] [.bool p.1.1,.string p.1.2.1,.string p.1.2.2,.bool p.2.1,.string p.2.2.1,.string p.2.2.2]=true:=by
 have:=L4 p p;rw [decide_eq_true rfl] at this;exact this
instance (n:Int):Decidable (v8 n):=inferInstanceAs (Decidable (_∧_))
def Pm:bC:={ ι:=Unit,args:=fun _=>[],pre:=fun _=>True,val:=fun _=>.bool true }
def c4:RV:=(false,⟨#[]⟩,⟨#[]⟩)
theorem sB (k:Nat):c4.sz k:=⟨Nat.zero_le _,Nat.zero_le _⟩
theorem zI {n:Int} (h:n.natAbs < 256):QB (n:Rat) 1:=by
 have e1:(n:Rat).num=n:=Rat.num_intCast n;have e2:(n:Rat).den=1:=Rat.den_intCast n;refine ⟨?_,?_⟩
 ·rw [e1]; exact gR (show n.natAbs < C ^ 1 from h)
 ·rw [e2]; exact gR (show 1 < C ^ 1 by decide)
open Go
abbrev PL:=Option (List PV × Nat)
def PL.val:PL→Value
 | none=>.slice none 0 0
 | some i=>.slice (some ⟨0,0,none⟩) i.1.length i.2
def PL.ah:PL→List ai
 | none=>[]
 | some i=>[.flat false i.1.length 6 (cW i.1)]
def PL.list:PL→List PV
 | none=>[]
 | some i=>i.1
def PL.ok (i:PL):Prop:=i.list.length≤9223372036854775807
def nj:XV:=((c4,c4),(c4,c4))
theorem G9:c4.q=0:=by
 show mkRat (a9 false (ab ⟨#[]⟩)) _=0
 exact Rat.zero_mkRat _
open Go
theorem eqX (b:XV):eL [.bool b.1.1.1,.string b.1.1.2.1,.string b.1.1.2.2,.bool b.1.2.1,.string b.1.2.2.1,.string b.1.2.2.2,.bool b.2.1.1,.string b.2.1.2.1,.string b.2.1.2.2,.bool b.2.2.1,.string b.2.2.2.1,.string b.2.2.2.2] [.bool b.1.1.1,.string b.1.1.2.1,.string b.1.1.2.2,.bool b.1.2.1,.string b.1.2.2.1,.string b.1.2.2.2,.bool b.2.1.1,.string b.2.1.2.1,.string b.2.1.2.2,.bool b.2.2.1,.string b.2.2.2.1,.string b.2.2.2.2]=true:=by
 simp [eL]
open Go
structure Bounds (l:List PV) (X:XV):Prop where
 inb:∀ p∈l,WR.val (X,p)=.bool true
 sz:X.1.sz 268435456∧X.2.sz 268435456
 c1:j8.val X.1=.int .i64 0
 c2:j8.val X.2=.int .i64 0
 l1:∃ p∈l,p.1.q=X.1.1.q
 l2:∃ p∈l,p.1.q=X.2.1.q
 l3:∃ p∈l,p.2.q=X.1.2.q
 l4:∃ p∈l,p.2.q=X.2.2.q
theorem yX {p q:Rat}:aZ p q=0↔p=q:=by
 have h1:=xy (p:=p) (q:=q);have J:=lC (p:=p) (q:=q);constructor
 ·intro h; have:=h1.1 (by omega); have:=J.1 (by omega); grind
 ·intro h; have:=h1.2 (by grind); have:=J.2 (by grind); omega
theorem aH.sf {o o':Bool} {n e:Nat} {g f:Nat→List Value} (h:o=true→o'=true) (hf:∀ r,r < n→f r=g r) (hs:∀ r,r < n→mG (g r)=true):aH (.flat o n e g) (.flat o' n e f) :=
 ⟨fun ho=>⟨h ho,rfl⟩,rfl,Nat.le_refl _,fun r hr=>(hf r hr).symm,fun r hr v hv=>dI (hs r hr) v hv⟩
open Go
abbrev Q2:=Rat × Rat
def PV.p (a:PV):Q2:=(a.1.q,a.2.q)
def cc (p:Q2):PV:=(RV.of p.1,RV.of p.2)
theorem gJ (p:Q2):(cc p).p=p:=by
 show ((RV.of p.1).q,(RV.of p.2).q)=p
 rw [RV.iz,RV.iz]
def tf (b a:Q2):Q2:=(b.1 - a.1,b.2 - a.2)
def D0 (u v:Q2):Rat:=u.1*v.1+u.2*v.2
def bT (u v:Q2):Rat:=u.1*v.2 - u.2*v.1
theorem Oz (b a:PV):kQ.val (b,a)=(cc (tf b.p a.p)).v:=rfl
theorem VF (u v:PV):nS.val (u,v)=(RV.of (bT u.p v.p)).v:=rfl
theorem WS (r:RV):iJ.val r=.int .i64 (aZ r.q 0):=rfl
def Q2.sz (k:Nat) (p:Q2):Prop:=QB p.1 k∧QB p.2 k
theorem PV.cL {a:PV} {k:Nat} (h:a.sz k) (hk:1≤k):Q2.sz k a.p:=⟨RV.jf h.1 hk,RV.jf h.2 hk⟩
theorem uV {p:Q2} {k l:Nat} (h:Q2.sz k p) (hl:k≤l):(cc p).sz l:=⟨RV.aO (RV.mB h.1) hl,RV.aO (RV.mB h.2) hl⟩
theorem pg {a b:Q2} {k l:Nat} (ha:Q2.sz k a) (hb:Q2.sz l b):Q2.sz (k+l+1) (tf a b):=⟨ha.1.sub hb.1,ha.2.sub hb.2⟩
theorem aa4 {a b:Q2} {k l:Nat} (ha:Q2.sz k a) (hb:Q2.sz l b):QB (D0 a b) (k+l+(k+l)+1):=(ha.1.mul hb.1).add (ha.2.mul hb.2)
theorem uC {a b:Q2} {k l:Nat} (ha:Q2.sz k a) (hb:Q2.sz l b):QB (bT a b) (k+l+(k+l)+1):=(ha.1.mul hb.2).sub (ha.2.mul hb.1)
theorem aa5 {q:Rat} {k:Nat} (h:QB q k) (hk:k≤8589934592):(RV.of q).ok:=RV.sW (h.mono hk)
def ao (a b c:Q2):Rat:=bT (tf b a) (tf c a)
abbrev rJ:=PV × PV × PV
def D1 (i:rJ):Prop:=i.1.sz 1048576∧i.2.1.sz 1048576∧i.2.2.sz 1048576
def jL:bC:={ ι:=rJ,args:=fun i=>[i.1.v,i.2.1.v,i.2.2.v],pre:=D1,val:=fun i=>.int .i64 (aZ (ao i.1.p i.2.1.p i.2.2.p) 0) }
def D2 (a b p:Q2):Prop:=ao a b p=0∧D0 (tf a p) (tf b p)≤0
instance (a b p:Q2):Decidable (D2 a b p):=inferInstanceAs (Decidable (_∧_))
def lM (v:Q2):Int:=if v.1=0∧v.2=0 then 0 else if 0 < v.2∨v.2=0∧0 < v.1 then 1 else 2
def tg (u v:Q2):Int:=if lM u < lM v then -1 else if lM v < lM u then 1 else -aZ (bT u v) 0
abbrev TV:=PV × PV × PV
def TV.v (t:TV):Value:=.agg ⟨t.1.cells++(t.2.1.cells++t.2.2.cells)⟩
def x8 (u p:Q2):Q2:=(D0 u p,bT u p)
def afc (u v w:Q2):Prop:=lM u≠0∧lM v≠0∧lM w≠0∧tg (x8 u w) (x8 u u)≠0∧(tg (x8 u v) (x8 u u)=0∨tg (x8 u w) (x8 u v) < 0)
instance (u v w:Q2):Decidable (afc u v w):=inferInstanceAs (Decidable (_∧_))
open Go
def fI (a b:Q2):Int:=if aZ a.1 b.1≠0 then aZ a.1 b.1 else aZ a.2 b.2
theorem OA {p q:Rat} (h:p < q):aZ p q=-1:=VE.2 h
theorem OB {p q:Rat} (h:q < p):aZ p q=1:=WQ.2 h
theorem Ha {p q:Rat} (h:p=q):aZ p q=0:=yX.2 h
theorem RP (q:Rat):q < 0∨q=0∨0 < q:=by
 by_cases h:q < 0
 ·exact .inl h
 ·by_cases J:0 < q
  ·exact .inr (.inr J)
  ·exact .inr (.inl (by grind))
theorem BU (q:Rat):(q < 0∧aZ q 0=-1)∨(q=0∧aZ q 0=0)∨(0 < q∧aZ q 0=1):=by
 rcases RP q with h | h | h
 ·exact .inl ⟨h,OA h⟩
 ·exact .inr (.inl ⟨h,Ha h⟩)
 ·exact .inr (.inr ⟨h,OB h⟩)
theorem GC (p q:Rat):aZ p q=aZ (p - q) 0:=by
 rcases BU (p - q) with ⟨h1,J⟩ | ⟨h1,J⟩ | ⟨h1,J⟩ <;> rw [J]
 ·exact OA (by grind)
 ·exact Ha (by grind)
 ·exact OB (by grind)
theorem VG {a b:Q2}:fI a b=0↔a.1=b.1∧a.2=b.2:=by
 unfold fI;by_cases h:aZ a.1 b.1=0
 ·rw [if_neg (by simp [h]),yX]
  exact ⟨fun J=>⟨yX.1 h,J⟩,fun J=>J.2⟩
 ·rw [if_pos h];exact ⟨fun J=>absurd J h,fun J=>yX.2 J.1⟩
theorem p9 (p q:Rat):aZ p q=-1∨aZ p q=0∨aZ p q=1:=by
 unfold aZ; split
 ·exact .inl rfl
 ·split
  ·exact .inr (.inr rfl)
  ·exact .inr (.inl rfl)
theorem L6 (a b:Q2):fI a b=-1∨fI a b=0∨fI a b=1:=by
 unfold fI; split <;> exact p9 _ _
open Go
def ym (a b:Q2):Q2:=(a.1+b.1,a.2+b.2)
open Go
def H1 (u:Q2):Prop:=0 < u.2∨u.2=0∧0 < u.1
def H2 (u:Q2):Prop:=u.2 < 0∨u.2=0∧u.1 < 0
def J0 (k:Rat) (u:Q2):Q2:=(u.1*k,u.2*k)
open Go
theorem sY {x:Q2} {k:Nat} (h:Q2.sz k x):∃ u:PV,(cc x).v=u.v∧u.p=x∧u.sz k∧Q2.sz k u.p :=
 ⟨cc x,rfl,gJ x,uV h (Nat.le_refl _),by rw [gJ]; exact h⟩
theorem fH {q:Rat} {k:Nat} (h:QB q k):∃ r:RV,(RV.of q).v=r.v∧r.q=q∧r.sz k∧QB r.q k :=
 ⟨RV.of q,rfl,RV.iz q,RV.mB h,by rw [RV.iz]; exact h⟩
theorem RV.ady {a b:RV} (h:a.v=b.v):a.1=b.1∧a.2.1=b.2.1∧a.2.2=b.2.2:=by
 have h:Value.agg ⟨[.bool a.1,.string a.2.1,.string a.2.2]⟩=Value.agg ⟨[.bool b.1,.string b.2.1,.string b.2.2]⟩:=h;simp only [Value.agg.injEq,Array.mk.injEq,List.cons.injEq,Value.bool.injEq,Value.string.injEq] at h;exact ⟨h.1,h.2.1,h.2.2.1⟩
theorem RV.ko {a b:RV} (h:a.v=b.v):a=b:=by
 obtain ⟨h1,J,h3⟩:=RV.ady h;exact Prod.ext h1 (Prod.ext J h3)
theorem PV.ko {a b:PV} (h:a.v=b.v):a=b:=by
 have h:Value.agg ⟨[.bool a.1.1,.string a.1.2.1,.string a.1.2.2,.bool a.2.1,.string a.2.2.1,.string a.2.2.2]⟩=Value.agg ⟨[.bool b.1.1,.string b.1.2.1,.string b.1.2.2,.bool b.2.1,.string b.2.2.1,.string b.2.2.2]⟩:=h;simp only [Value.agg.injEq,Array.mk.injEq,List.cons.injEq,Value.bool.injEq,Value.string.injEq] at h;obtain ⟨h1,J,h3,h4,h5,h6,_⟩:=h;exact Prod.ext (Prod.ext h1 (Prod.ext J h3)) (Prod.ext h4 (Prod.ext h5 h6))
theorem dS (n:Int):∃ m:Int,Value.int .i64 n=Value.int .i64 m∧m=n:=⟨n,rfl,rfl⟩
theorem xN {x:Q2} {k:Nat} (h:Q2.sz k x):∃ u:PV,u=cc x∧(cc x).v=u.v∧u.p=x∧u.sz k∧Q2.sz k u.p :=
 ⟨cc x,rfl,rfl,gJ x,uV h (Nat.le_refl _),by rw [gJ]; exact h⟩
theorem xO {q:Rat} {k:Nat} (h:QB q k):∃ r:RV,r=RV.of q∧(RV.of q).v=r.v∧r.q=q∧r.sz k∧QB r.q k :=
 ⟨RV.of q,rfl,rfl,RV.iz q,RV.mB h,by rw [RV.iz]; exact h⟩
theorem vB (a b:Int) (ha:a.natAbs < 256) (hb:b.natAbs < 256):Q2.sz 1 ((a:Rat),(b:Rat)) :=
 ⟨zI ha,zI hb⟩
theorem th (p q:PV):eL [.bool p.1.1,.string p.1.2.1,.string p.1.2.2,.bool p.2.1,.string p.2.2.1,.string p.2.2.2] [.bool q.1.1,.string q.1.2.1,.string q.1.2.2,.bool q.2.1,.string q.2.2.1,.string q.2.2.2]=decide (p=q):=L4 p q
theorem QB.of_int {n:Int} {k:Nat} (h:aS n.natAbs≤k) (hk:1≤k):QB (n:Rat) k:=⟨by rw [Rat.num_intCast]; exact h,by rw [Rat.den_intCast]; exact Nat.le_trans (gR (show 1 < C ^ 1 by decide)) hk⟩
theorem QB.inv {q:Rat} {k:Nat} (h:QB q k) (hk:1≤k):QB q⁻¹ k:=by
 by_cases hq:q=0
 ·subst hq;have:(0:Rat)⁻¹=0:=by simp
  rw [this]; exact h
 ·have e:q⁻¹=Rat.divInt q.den q.num:=Rat.inv_def q;rw [e];have hn:q.num≠0:=fun e=>hq (Rat.num_eq_zero.1 e)
  rcases Int.lt_or_gt_of_ne hn with h1 | h1
  ·have e2:Rat.divInt q.den q.num=mkRat (-(q.den:Int)) q.num.natAbs:=by
    obtain ⟨m,hm⟩:∃ m:Nat,q.num=-(m:Int):=⟨q.num.natAbs,by omega⟩
    rw [hm];rw [Rat.divInt_neg'];simp
   rw [e2];exact QB.mk (by omega) (by rw [Int.natAbs_neg,Int.natAbs_natCast]; exact h.2) h.1
  ·have e2:Rat.divInt q.den q.num=mkRat (q.den:Int) q.num.natAbs:=by
    obtain ⟨m,hm⟩:∃ m:Nat,q.num=(m:Int):=⟨q.num.natAbs,by omega⟩
    rw [hm];simp
   rw [e2];exact QB.mk (by omega) (by rw [Int.natAbs_natCast]; exact h.2) h.1
theorem QB.div {p q:Rat} {k l:Nat} (hp:QB p k) (hq:QB q l) (hl:1≤l):QB (p / q) (k+l):=by
 rw [Rat.div_def]; exact hp.mul (hq.inv hl)
def atR (a b:Q2) (t:Rat):Q2:=(a.1+(b.1 - a.1)*t,a.2+(b.2 - a.2)*t)
theorem z9 {a b:Q2} {t:Rat} {k l m:Nat} (ha:Q2.sz k a) (hb:Q2.sz l b) (ht:QB t m):Q2.sz (k+(l+k+1+m)+1) (atR a b t) :=
 ⟨ha.1.add ((hb.1.sub ha.1).mul ht),ha.2.add ((hb.2.sub ha.2).mul ht)⟩
open Go
abbrev R3:=RV × RV × RV
def R3.v (i:R3):Value:=.agg ⟨[.bool i.1.1,.string i.1.2.1,.string i.1.2.2,.bool i.2.1.1,.string i.2.1.2.1,.string i.2.1.2.2,.bool i.2.2.1,.string i.2.2.2.1,.string i.2.2.2.2]⟩
def R3.get (i:R3):Nat→RV | 0=>i.1 | 1=>i.2.1 | _=>i.2.2
def R3.sz (k:Nat) (i:R3):Prop:=i.1.sz k∧i.2.1.sz k∧i.2.2.sz k
def R3.rows (i:R3):Nat→List Value:=fun r=>(i.get r).cells
def R3.cells (i:R3):List Value:=[.bool i.1.1,.string i.1.2.1,.string i.1.2.2,.bool i.2.1.1,.string i.2.1.2.1,.string i.2.1.2.2,.bool i.2.2.1,.string i.2.2.2.1,.string i.2.2.2.2]
theorem R3.aL (i:R3):aH (.flat false 1 9 (fun _=>i.cells)) (.aP true 9 [i.cells]) :=
 GB rfl (fun r hr=>by
  have:r=0:=by omega
  subst this; rfl) (fun r hr=>rfl)
def TV.w (t:TV):Value:=.agg ⟨[.bool t.1.1.1,.string t.1.1.2.1,.string t.1.1.2.2,.bool t.1.2.1,.string t.1.2.2.1,.string t.1.2.2.2,.bool t.2.1.1.1,.string t.2.1.1.2.1,.string t.2.1.1.2.2,.bool t.2.1.2.1,.string t.2.1.2.2.1,.string t.2.1.2.2.2,.bool t.2.2.1.1,.string t.2.2.1.2.1,.string t.2.2.1.2.2,.bool t.2.2.2.1,.string t.2.2.2.2.1,.string t.2.2.2.2.2]⟩
def sg (q:Rat):Int:=aZ q 0
def inR (a b c p:Q2):Prop:=sg (ao a b c)≠0∧sg (ao a b p)=sg (ao a b c)∧sg (ao b c p)=sg (ao a b c)∧sg (ao c a p)=sg (ao a b c)
instance (a b c p:Q2):Decidable (inR a b c p):=inferInstanceAs (Decidable (_∧_))
def onR (a b c p:Q2):Prop:=D2 a b p∨D2 b c p∨D2 c a p
instance (a b c p:Q2):Decidable (onR a b c p):=inferInstanceAs (Decidable (_∨_))
def aa6 (u v w:Q2):Prop:=(lM u≠0∧lM v≠0∧lM w≠0)∧if tg u v < 0 then tg u w < 0∧tg w v < 0 else tg u w < 0∨tg w v < 0
instance (u v w:Q2):Decidable (aa6 u v w):=inferInstanceAs (Decidable (_∧_))
def hs (u:Q2):Int:=if lM u=2 then -1 else 1
structure Tri (u v w:Q2) (a b c x y z:Int):Prop where
 hu:lM u=a
 hv:lM v=b
 hw:lM w=c
 ra:a=1∨a=2
 rb:b=1∨b=2
 rc:c=1∨c=2
 uv:sg (bT u v)=x
 uw:sg (bT u w)=y
 wv:sg (bT w v)=z
open Go
instance (k:Nat) (p:PV):Decidable (p.sz k):=inferInstanceAs (Decidable ((_∧_)∧(_∧_)))
def uW (k:Nat) (l:List PV):Bool:=l.any fun p=>decide (¬ p.sz k)
theorem Fl {k:Nat} {l:List PV} {p:PV} (h:p∈l) (hg:¬ p.sz k):uW k l=true:=List.any_eq_true.2 ⟨p,h,decide_eq_true hg⟩
theorem S6 {k:Nat} {l:List PV} (h:uW k l=false):∀ p∈l,p.sz k:=fun p hp=>by
 refine Classical.byContradiction fun hg=>?_
 rw [Fl hp hg] at h; cases h
def uL (k:Nat) (l:List PV) (i:Nat):Prop:=∀ p∈l.take i,p.sz k
theorem KK (k:Nat) (l:List PV):uL k l 0:=fun p hp=>by simp at hp
theorem K0 {k:Nat} {l:List PV} {i:Nat} {p:PV} (h:uL k l i) (hp:l[i]?=some p) (hg:p.sz k):uL k l (i+1):=fun q hq=>by
 rw [List.take_add_one,hp] at hq;simp only [Option.toList_some,List.mem_append,List.mem_singleton] at hq;rcases hq with hq | rfl
 ·exact h q hq
 ·exact hg
theorem Lm {k:Nat} {l:List PV} (h:uL k l l.length):uW k l=false:=by
 cases e:uW k l
 ·rfl
 ·obtain ⟨p,hp,hg⟩:=List.any_eq_true.1 e;rw [uL,List.take_length] at h;exact absurd (h p hp) (of_decide_eq_true hg)
theorem Hb (l:List PV):aH (.flat false l.length 6 (cW l)) (.aP true 6 (l.map PV.cells)) :=
 GB (by simp) (fun r hr=>by
  unfold cW;rw [List.getD_eq_getElem?_getD,List.getD_eq_getElem?_getD,List.getElem?_map,List.getElem?_eq_getElem hr]
  rfl) (fun r hr=>rfl)
def PL.DC (i:PL) (k:Nat):Value:=match i with | none=>.slice none 0 0 | some j=>.slice (some ⟨k,0,none⟩) j.1.length j.2
abbrev rK:=PL × PL
def fo:cl:={ ι:=rK,args:=fun i=>[i.1.val,i.2.DC i.1.ah.length],ah:=fun i=>i.1.ah++i.2.ah,pre:=fun i=>i.1.list.length≤1099511627776∧i.2.list.length≤1099511627776,val:=fun i=>.bool (decide (i.1.list=i.2.list)),new:=fun _=>none }
def vC (l m:List PV) (i:Nat):Prop:=l.take i=m.take i
theorem Uq (l m:List PV):vC l m 0:=rfl
theorem VH {l m:List PV} {i:Nat} {p q:PV} (h:vC l m i) (hp:l[i]?=some p) (hq:m[i]?=some q) (e:p=q):vC l m (i+1):=by
 unfold vC at *;rw [List.take_add_one,List.take_add_one,hp,hq,h,e]
theorem WT {l m:List PV} (h:vC l m l.length) (hl:l.length=m.length):l=m:=by
 unfold vC at h;rw [List.take_length] at h;rw [h,hl,List.take_length]
theorem adz {l m:List PV} {i:Nat} {p q:PV} (hp:l[i]?=some p) (hq:m[i]?=some q) (e:p≠q):l≠m:=fun h=>by
 subst h; rw [hp] at hq; exact e (Option.some.inj hq)
section
variable (f:PV→PV→Int)
def tj (x:PV):List PV→List PV
 | []=>[x]
 | y::r=>if f x y < 0 then y::tj x r else x::y::r
def yn (l:List PV):List PV:=l.foldl (fun a x=>tj f x a) []
theorem VI {l:List PV} {x:PV}:yn f (l++[x])=tj f x (yn f l):=by unfold yn; rw [List.foldl_append]; rfl
end
structure afE (f:PV→PV→Int):Prop where
 afO:∀ x y,f y x=-f x y
 trans:∀ x y z,f x y≤0→f y z≤0→f x z≤0
def P6 (f:PV→PV→Int) (l:List PV) (i:Nat):List PV:=(yn f (l.take i)).reverse++l.drop i
structure A3 (f:PV→PV→Int) (l:List PV) (i j:Nat) (x:PV) (r B L:List PV):Prop where
 at_:l[i]?=some x
 acc:yn f (l.take i)=B++r
 ins:tj f x (yn f (l.take i))=B++tj f x r
 len:r.length=j
 all:L=r.reverse++x::(B.reverse++l.drop (i+1))
theorem A3.step {f:PV→PV→Int} {l:List PV} {i j:Nat} {x y:PV} {r B L:List PV} (h:A3 f l i j x (y::r) B L) (hf:f x y < 0) :
  A3 f l i (j - 1) x r (B++[y]) (r.reverse++x::y::(B.reverse++l.drop (i+1))):=by
 refine ⟨h.at_,by rw [h.acc]; simp,?_,?_,by simp⟩
 ·have e:tj f x (y::r)=y::tj f x r:=by
   show (if f x y < 0 then _ else _)=_
   rw [if_pos hf]
  rw [h.ins,e];simp
 ·have:=h.len; simp at this; omega
theorem A3.done {f:PV→PV→Int} {l:List PV} {i j:Nat} {x:PV} {r B L:List PV} (h:A3 f l i j x r B L) (hs:tj f x r=x::r):L=P6 f l (i+1):=by
 rw [h.all];unfold P6;rw [List.take_add_one,h.at_];simp only [Option.toList_some];rw [VI,h.ins,hs];simp
open Go
open Go
open Go
open Go
open Go
abbrev Q3:=Rat × Rat × Rat
def R3.q (l:R3):Q3:=(l.1.q,l.2.1.q,l.2.2.q)
def Q3.sz (k:Nat) (l:Q3):Prop:=QB l.1 k∧QB l.2.1 k∧QB l.2.2 k
theorem R3.aO {l:R3} {k m:Nat} (h:l.sz k) (hk:k≤m):l.sz m:=⟨RV.aO h.1 hk,RV.aO h.2.1 hk,RV.aO h.2.2 hk⟩
theorem Q3.mono {l:Q3} {k m:Nat} (h:Q3.sz k l) (hk:k≤m):Q3.sz m l:=⟨h.1.mono hk,h.2.1.mono hk,h.2.2.mono hk⟩
theorem Q2.mono {l:Q2} {k m:Nat} (h:Q2.sz k l) (hk:k≤m):Q2.sz m l:=⟨h.1.mono hk,h.2.mono hk⟩
def Aa:R3:=(c4,c4,c4)
def rL (l:Q3):Q2:=(l.1,l.2.1)
def R3.n (l:R3):PV:=(l.1,l.2.1)
def aj (l:Q3) (p:Q2):Rat:=D0 (rL l) p - l.2.2
def gP (l:Q3):Prop:=¬ (l.1=0∧l.2.1=0)
instance (l:Q3):Decidable (gP l):=inferInstanceAs (Decidable (¬ (_∧_)))
def cU (p q:Q2):Q3:=(p.2 - q.2,q.1 - p.1,(p.2 - q.2)*p.1+(q.1 - p.1)*p.2)
def rh (l m:Q3):Rat:=bT (rL l) (rL m)
def IY (l m:Q3):Q2:=((l.2.2*m.2.1 - l.2.1*m.2.2) / rh l m,(l.1*m.2.2 - l.2.2*m.1) / rh l m)
def DD:PV:=(c4,c4)
def LE.v (x:R3 × Int):Value:=.tuple ⟨[x.1.v,.int .i64 x.2]⟩
def PE.v (x:PV × Int):Value:=.tuple ⟨[x.1.v,.int .i64 x.2]⟩
def ZE.v (x:Int × Int):Value:=.tuple ⟨[.int .i64 x.1,.int .i64 x.2]⟩
def RV.pJ (i:RV):Prop:=20 < i.2.1.size∨20 < i.2.2.size
instance (i:RV):Decidable i.pJ:=inferInstanceAs (Decidable (_∨_))
def R3.pJ (l:R3):Prop:=l.1.pJ∨l.2.1.pJ∨l.2.2.pJ
instance (l:R3):Decidable l.pJ:=inferInstanceAs (Decidable (_∨_∨_))
def PV.pJ (p:PV):Prop:=p.1.pJ∨p.2.pJ
instance (l:PV):Decidable l.pJ:=inferInstanceAs (Decidable (_∨_))
open Go
theorem WU (k:Nat):Aa.sz k:=⟨sB _,sB _,sB _⟩
theorem WV (k:Nat):DD.sz k:=⟨sB _,sB _⟩
theorem za {k:Nat}:QB c4.q (k+1):=RV.jf (sB _) (by omega)
theorem WW (k:Nat):Q3.sz (k+1) Aa.q:=⟨za,za,za⟩
theorem WX (k:Nat):Q2.sz (k+1) DD.p:=⟨za,za⟩
theorem Pn {p q:Q2} {k l:Nat} (hp:Q2.sz k p) (hq:Q2.sz l q):Q3.sz (k+l+1+k+(k+l+1+k)+1) (cU p q) :=
 ⟨(hp.2.sub hq.2).mono (by omega),(hq.1.sub hp.1).mono (by omega),(((hp.2.sub hq.2).mul hp.1).add (((hq.1.sub hp.1).mono (show l+k+1≤k+l+1 by omega)).mul hp.2)).mono (by omega)⟩
theorem Po {l:Q3} {p:Q2} {k m:Nat} (hl:Q3.sz k l) (hp:Q2.sz m p):QB (aj l p) (k+m+(k+m)+1+k+1):=(aa4 (a:=rL l) ⟨hl.1,hl.2.1⟩ hp).sub hl.2.2
theorem Pp {l:Q3} {k:Nat} (hl:Q3.sz k l):Q2.sz k (rL l):=⟨hl.1,hl.2.1⟩
theorem Pq {l m:Q3} {k j:Nat} (hl:Q3.sz k l) (hm:Q3.sz j m):QB (rh l m) (k+j+(k+j)+1):=uC (Pp hl) (Pp hm)
theorem aa7 {l m:Q3} {k j:Nat} (hl:Q3.sz k l) (hm:Q3.sz j m):Q2.sz (k+j+(k+j)+1+(k+j+(k+j)+1)) (IY l m) :=
 ⟨((hl.2.2.mul hm.2.1).sub (hl.2.1.mul hm.2.2)).div (Pq hl hm) (by omega),((hl.1.mul hm.2.2).sub (hl.2.2.mul hm.1)).div (Pq hl hm) (by omega)⟩
theorem z3 {k:Nat} (h:1≤k):Aa.sz k∧Q3.sz k Aa.q:=⟨WU _,Q3.mono (WW 0) h⟩
theorem z2 {k:Nat} (h:1≤k):DD.sz k∧Q2.sz k DD.p:=⟨WV _,Q2.mono (WX 0) h⟩
theorem R3.ko {a b:R3} (h:a.v=b.v):a=b:=by
 have h:Value.agg ⟨[.bool a.1.1,.string a.1.2.1,.string a.1.2.2,.bool a.2.1.1,.string a.2.1.2.1,.string a.2.1.2.2,.bool a.2.2.1,.string a.2.2.2.1,.string a.2.2.2.2]⟩=Value.agg ⟨[.bool b.1.1,.string b.1.2.1,.string b.1.2.2,.bool b.2.1.1,.string b.2.1.2.1,.string b.2.1.2.2,.bool b.2.2.1,.string b.2.2.2.1,.string b.2.2.2.2]⟩:=h;simp only [Value.agg.injEq,Array.mk.injEq,List.cons.injEq,Value.bool.injEq,Value.string.injEq] at h;obtain ⟨h1,J,h3,h4,h5,h6,h7,h8,h9,_⟩:=h;exact Prod.ext (Prod.ext h1 (Prod.ext J h3)) (Prod.ext (Prod.ext h4 (Prod.ext h5 h6)) (Prod.ext h7 (Prod.ext h8 h9)))
theorem jC:QB (2:Rat) 1:=zI (n:=2) (by decide)
open Go
theorem dm (a b c:Q2):ao a b c=(b.1 - a.1)*(c.2 - a.2) - (b.2 - a.2)*(c.1 - a.1):=rfl
theorem xz (a b c:Q2):ao a b c=ao b c a:=by rw [dm,dm]; grind
theorem zc (a b c:Q2):ao a c b=-ao a b c:=by rw [dm,dm]; grind
theorem CL (a b:Q2):ao a a b=0:=by rw [dm]; grind
theorem qB (a b:Q2):ao a b a=0:=by rw [dm]; grind
theorem nT (a b:Q2):ao a b b=0:=by rw [dm]; grind
theorem NG (a b c d:Q2) (t:Rat):ao (atR a b t) c d=(1 - t)*ao a c d+t*ao b c d:=by
 simp only [dm,atR]; grind
theorem WY (a b c d:Q2) (t:Rat):ao c (atR a b t) d=(1 - t)*ao c a d+t*ao c b d:=by
 simp only [dm,atR]; grind
theorem zd (a b c d:Q2) (t:Rat):ao c d (atR a b t)=(1 - t)*ao c d a+t*ao c d b:=by
 simp only [dm,atR]; grind
theorem qe {x y t:Rat} (h0:0≤t) (h1:t≤1) (hx:0≤x) (hy:0≤y):0≤(1 - t)*x+t*y:=by
 have a:=Rat.mul_nonneg (show 0≤1 - t by grind) hx
 have b:=Rat.mul_nonneg h0 hy;grind
def pF (a:Q2) (l:List Q2):Prop:=l.Pairwise (fun b c=>0≤ao a b c)
def bz:List Q2→Prop
 | []=>True
 | a::l=>pF a l∧bz l
theorem bz.sublist {l m:List Q2} (h:bz m) (hs:l.Sublist m):bz l:=by
 induction hs with
 | slnil=>exact trivial
 | cons a hs ih=>exact ih h.2
 | cons_cons a hs ih=>exact ⟨h.1.sublist hs,ih h.2⟩
theorem bz.filter {l:List Q2} (h:bz l) (f:Q2→Bool):bz (l.filter f):=h.sublist List.filter_sublist
theorem pF.ins {a p q:Q2} {t:Rat} {A B:List Q2} (h0:0≤t) (h1:t≤1) (h:pF a (A++p::q::B)):pF a (A++p::atR p q t::q::B):=by
 unfold pF at *;rw [List.pairwise_append] at h ⊢;obtain ⟨hA,hB,mh⟩:=h;rw [List.pairwise_cons,List.pairwise_cons] at hB;obtain ⟨hp,hq,hB⟩:=hB;refine ⟨hA,?_,?_⟩
 ·rw [List.pairwise_cons,List.pairwise_cons,List.pairwise_cons];refine ⟨?_,?_,hq,hB⟩
  ·intro z hz;rcases List.mem_cons.1 hz with rfl | hz
   ·rw [zd,nT];exact qe h0 h1 (by grind) (hp _ (List.mem_cons_self ..))
   ·exact hp z hz
  ·intro z hz;rw [WY];rcases List.mem_cons.1 hz with rfl | hz
   ·exact qe h0 h1 (hp _ (List.mem_cons_self ..)) (by rw [nT]; grind)
   ·exact qe h0 h1 (hp _ (List.mem_cons_of_mem _ hz)) (hq _ hz)
 ·intro y hy z hz;rcases List.mem_cons.1 hz with rfl | hz
  ·exact mh y hy _ (List.mem_cons_self ..)
  ·rcases List.mem_cons.1 hz with rfl | hz
   ·rw [zd];exact qe h0 h1 (mh y hy _ (List.mem_cons_self ..)) (mh y hy _ (List.mem_cons_of_mem _ (List.mem_cons_self ..)))
   ·exact mh y hy _ (List.mem_cons_of_mem _ hz)
theorem bz.ins {p q:Q2} {t:Rat} {A B:List Q2} (h0:0≤t) (h1:t≤1) (h:bz (A++p::q::B)):bz (A++p::atR p q t::q::B):=by
 induction A with
 | cons a A ih=>exact ⟨h.1.ins h0 h1,ih h.2⟩
 | nil =>
  obtain ⟨hp,hq,hB⟩:=h;refine ⟨pF.ins (A:=[]) (p:=p) h0 h1 (by
   show List.Pairwise _ (p::q::B)
   rw [List.pairwise_cons];exact ⟨fun z hz=>by rw [CL]; grind,hp⟩) |>.sublist (List.sublist_cons_self ..),?_,hq,hB⟩
  unfold pF at *;rw [List.pairwise_cons] at hp ⊢;obtain ⟨hp,hpB⟩:=hp;refine ⟨fun z hz=>?_,?_⟩
  ·rw [NG,CL];exact qe h0 h1 (hp z hz) (by grind)
  ·exact (hpB.and hq).imp (fun ⟨x,y⟩=>by rw [NG]; exact qe h0 h1 x y)
theorem bz.snoc {A:List Q2} {x:Q2} (h:bz A) (hx:A.Pairwise (fun y z=>0≤ao y z x)):bz (A++[x]):=by
 induction A with
 | nil=>exact ⟨.nil,trivial⟩
 | cons a A ih =>
  rw [List.pairwise_cons] at hx;refine ⟨?_,ih h.2 hx.2⟩;show List.Pairwise _ (A++[x])
  rw [List.pairwise_append];exact ⟨h.1,by simp,fun y hy z hz=>by simp at hz; subst hz; exact hx.1 y hy⟩
theorem bz.afd {a:Q2} {l:List Q2} (h:bz (a::l)):bz (l++[a]) :=
 h.2.snoc (h.1.imp (fun {y z} h=>by rw [xz,xz]; rw [← xz] at *; first | exact h | (rw [xz]; exact h)))
theorem bz.tR {A B:List Q2} (h:bz (A++B)):bz (B++A):=by
 induction A generalizing B with
 | nil=>rw [List.append_nil]; exact h
 | cons a A ih =>
  have:bz ((A++B)++[a]):=h.afd;rw [List.append_assoc] at this;have:=ih this
  rwa [List.append_assoc] at this
theorem bz.last {p h0:Q2} {t:Rat} {A:List Q2} (h1:0≤t) (J:t≤1) (h:bz (A++[p])) (hh:(A++[p]).head?=some h0):bz (A++[p,atR p h0 t]):=by
 have:=h.tR;cases A with
 | nil =>
  simp at hh; subst hh;exact ⟨by unfold pF; simp,by unfold pF; simp,trivial⟩
 | cons a A =>
  simp at hh; subst hh;have:=bz.ins (A:=[]) h1 J this;have:=bz.tR (A:=[p,atR p a t]) (B:=a::A) this;exact this
open Go
def bA {α:Type} (l:List α):List (α × α):=l.zip l.tail
def aY {α:Type} (l:List α):List (α × α):=bA (l++l.head?.toList)
theorem iS {α:Type} (p q:α) (l:List α):bA (p::q::l)=(p,q)::bA (q::l):=rfl
theorem oT {α:Type} (A B:List α) (x:α):bA (A++x::B)=bA (A++[x])++bA (x::B):=by
 induction A with
 | nil=>rfl
 | cons a A ih =>
  cases A with
  | nil=>rfl
  | cons b A =>
   show (a,b)::bA (b::A++x::B)=(a,b)::bA (b::A++[x])++_
   rw [ih]; rfl
theorem FD {α:Type} {l:List α} {e:α × α} (h:e∈bA l):e.1∈l∧e.2∈l:=by
 have:=List.of_mem_zip h;exact ⟨this.1,List.mem_of_mem_tail this.2⟩
theorem nP {α:Type} (h:α) (l:List α):aY (h::l)=bA (h::l++[h]):=rfl
theorem lu {α:Type} {l:List α} {e:α × α} (h:e∈aY l):e.1∈l∧e.2∈l:=by
 cases l with
 | nil=>cases h
 | cons a l =>
  have:=FD h;simp at this ⊢;exact ⟨by rcases this.1 with h | h | h <;> simp [h],by rcases this.2 with h | h | h <;> simp [h]⟩
theorem yY {α:Type} {A B:List α} {e:α × α} (h:e∈aY (A++B)):e∈aY (B++A):=by
 cases A with
 | nil=>rw [List.append_nil]; exact h
 | cons a A =>
  cases B with
  | nil=>rw [List.append_nil] at h; exact h
  | cons b B =>
   have h1:aY (a::A++b::B)=bA (a::A++[b])++bA (b::B++[a]):=by
    show bA ((a::A++b::B)++[a])=_
    rw [List.append_assoc];exact oT (a::A) (B++[a]) b
   have J:aY (b::B++a::A)=bA (b::B++[a])++bA (a::A++[b]):=by
    show bA ((b::B++a::A)++[b])=_
    rw [List.append_assoc];exact oT (b::B) (A++[b]) a
   rw [h1] at h;rw [J];rcases List.mem_append.1 h with h | h
   ·exact List.mem_append_right _ h
   ·exact List.mem_append_left _ h
theorem Ur {α:Type} {l:List α} {i:Nat} {p q:α} (hp:l[i]?=some p) (hq:l[i+1]?=some q):(bA l)[i]?=some (p,q):=by
 unfold bA;rw [List.getElem?_zip_eq_some];exact ⟨hp,by rw [List.getElem?_tail]; exact hq⟩
theorem ll {α:Type} (l:List α):(aY l).length=l.length:=by
 cases l with
 | nil=>rfl
 | cons a l=>rw [nP]; unfold bA; simp
theorem qf {α:Type} {l:List α} {i:Nat} {p q:α} (hp:l[i]?=some p) (hq:l[(i+1) % l.length]?=some q):(aY l)[i]?=some (p,q):=by
 cases l with
 | nil=>simp at hp
 | cons a l =>
  have hi:i < (a::l).length:=(List.getElem?_eq_some_iff.1 hp).1;rw [nP];refine Ur (by rw [List.getElem?_append_left hi]; exact hp) ?_
  rcases Nat.lt_or_eq_of_le (show i+1≤(a::l).length from hi) with h | h
  ·rw [Nat.mod_eq_of_lt h] at hq;rw [List.getElem?_append_left h]; exact hq
  ·rw [h,Nat.mod_self] at hq;rw [List.getElem?_append_right (by omega),h,Nat.sub_self]
   exact hq
theorem fM (l:Q3) (p:Q2):aj l p=l.1*p.1+l.2.1*p.2 - l.2.2:=rfl
theorem xh (m:Q3) (a b:Q2) (t:Rat):aj m (atR a b t)=(1 - t)*aj m a+t*aj m b:=by
 simp only [fM,atR]; grind
def gI (m:Q3) (p q:Q2):Rat:=aj m p / (aj m p - aj m q)
def fG (m:Q3) (p q:Q2):List Q2:=if aZ (aj m p) 0*aZ (aj m q) 0 < 0 then [atR p q (gI m p q)] else []
def im (m:Q3) (p:Q2):List Q2:=if aZ (aj m p) 0 ≥ 0 then [p] else []
def cB (m:Q3) (l:List Q2):List Q2:=(aY l).flatMap fun e=>im m e.1++fG m e.1 e.2
def QS (m:Q3) (l:List Q2):List Q2:=(aY l).flatMap fun e=>e.1::fG m e.1 e.2
theorem Ca {m:Q3} {p q:Q2}:aZ (aj m p) 0*aZ (aj m q) 0 < 0↔(0 < aj m p∧aj m q < 0)∨(aj m p < 0∧0 < aj m q):=by
 rcases BU (aj m p) with ⟨h1,J⟩ | ⟨h1,J⟩ | ⟨h1,J⟩ <;> rcases BU (aj m q) with ⟨h3,h4⟩ | ⟨h3,h4⟩ | ⟨h3,h4⟩ <;> rw [J,h4] <;> constructor <;> intro h <;> first | grind | omega
theorem WZ {x y:Rat} (h:(0 < x∧y < 0)∨(x < 0∧0 < y)):0≤x / (x - y)∧x / (x - y)≤1∧(x / (x - y))*(x - y)=x:=by
 have aD:x - y≠0:=by grind
 have e:(x / (x - y))*(x - y)=x:=by rw [Rat.div_def]; grind
 refine ⟨?_,?_,e⟩
 ·rcases h with ⟨h1,J⟩ | ⟨h1,J⟩
  ·by_cases h3:x / (x - y) < 0
   ·have:=Rat.mul_pos (show 0 < -(x / (x - y)) by grind) (show 0 < x - y by grind); grind
   ·grind
  ·by_cases h3:x / (x - y) < 0
   ·have:=Rat.mul_pos (show 0 < -(x / (x - y)) by grind) (show 0 < y - x by grind); grind
   ·grind
 ·rcases h with ⟨h1,J⟩ | ⟨h1,J⟩
  ·by_cases h3:1 < x / (x - y)
   ·have:=Rat.mul_pos (show 0 < x / (x - y) - 1 by grind) (show 0 < x - y by grind); grind
   ·grind
  ·by_cases h3:1 < x / (x - y)
   ·have:=Rat.mul_pos (show 0 < x / (x - y) - 1 by grind) (show 0 < y - x by grind); grind
   ·grind
theorem rX {m:Q3} {p q x:Q2} (h:x∈fG m p q):((0 < aj m p∧aj m q < 0)∨(aj m p < 0∧0 < aj m q))∧x=atR p q (gI m p q)∧0≤gI m p q∧gI m p q≤1∧aj m x=0:=by
 unfold fG at h
 split at h
 ·rename_i h1;have h1:=Ca.1 h1;simp at h;obtain ⟨J,h3,h4⟩:=WZ h1;refine ⟨h1,h,J,h3,?_⟩;rw [h,xh];unfold gI;grind
 ·cases h
theorem yZ {m:Q3} {p q:Q2} (h:(0 < aj m p∧aj m q < 0)∨(aj m p < 0∧0 < aj m q)):fG m p q=[atR p q (gI m p q)]:=by
 unfold fG; rw [if_pos (Ca.2 h)]
theorem K1 (m:Q3) (p q:Q2):fG m p q=[]∨(fG m p q=[atR p q (gI m p q)]∧0≤gI m p q∧gI m p q≤1):=by
 by_cases h:aZ (aj m p) 0*aZ (aj m q) 0 < 0
 ·have h1:=yZ (Ca.1 h);have:=rX (x:=atR p q (gI m p q)) (by rw [h1]; simp)
  exact .inr ⟨h1,this.2.2.1,this.2.2.2.1⟩
 ·left; unfold fG; rw [if_neg h]
theorem Us (m:Q3) (l:List Q2):cB m l=(QS m l).filter fun p=>decide (0≤aj m p):=by
 unfold cB QS;rw [List.filter_flatMap]
 congr 1
 funext e
 rw [List.filter_cons];have h1:(fG m e.1 e.2).filter (fun p=>decide (0≤aj m p))=fG m e.1 e.2:=by
  rw [List.filter_eq_self];intro x hx;have:=(rX hx).2.2.2.2;rw [this]; decide
 rw [h1];unfold im;by_cases h:0≤aj m e.1
 ·rw [if_pos (lC.2 h),if_pos (by simpa using h)]; rfl
 ·rw [if_neg (fun J=>h (lC.1 J)),if_neg (by simpa using h)]; rfl
theorem W0 (m:Q3) {h:Q2}:∀ (B:List Q2) (p:Q2) (A:List Q2),bz (A++p::B)→(A++p::B).head?=some h→bz (A++(bA (p::B++[h])).flatMap fun e=>e.1::fG m e.1 e.2):=by
 intro B
 induction B with
 | nil =>
  intro p A ht hh;show bz (A++((p::fG m p h)++[]))
  rw [List.append_nil];rcases K1 m p h with e | ⟨e,h1,J⟩
  ·rw [e]; exact ht
  ·rw [e]; exact ht.last h1 J hh
 | cons q B ih =>
  intro p A ht hh;show bz (A++((p::fG m p q)++(bA (q::B++[h])).flatMap fun e=>e.1::fG m e.1 e.2))
  rw [← List.append_assoc];rcases K1 m p q with e | ⟨e,h1,J⟩
  ·rw [e];exact ih q (A++[p]) (by rw [List.append_assoc]; exact ht) (by rw [List.append_assoc]; exact hh)
  ·rw [e];refine ih q (A++[p,atR p q (gI m p q)]) ?_ ?_
   ·rw [List.append_assoc]; exact ht.ins h1 J
   ·cases A with
    | nil=>exact hh
    | cons a A=>exact hh
theorem Cs {m:Q3} {l:List Q2} (h:bz l):bz (cB m l):=by
 rw [Us];refine bz.filter ?_ _;cases l with
 | nil=>exact trivial
 | cons a l=>exact W0 m l a [] h rfl
open Go
def cX (P:List Q2) (p:Q2):Prop:=∀ f:Q3,(∀ v∈P,0≤aj f v)→0≤aj f p
theorem cX.lH {P:List Q2} {v:Q2} (h:v∈P):cX P v:=fun f hf=>hf v h
theorem cX.trans {P Q:List Q2} {p:Q2} (h:cX P p) (hq:∀ v∈P,cX Q v):cX Q p:=fun f hf=>h f (fun v hv=>hq v hv f hf)
theorem cX.mono {P Q:List Q2} {p:Q2} (h:cX P p) (hq:∀ v∈P,v∈Q):cX Q p:=h.trans fun v hv=>.lH (hq v hv)
theorem cX.nil (p:Q2):¬ cX [] p:=fun h=>by
 have:=h (0,0,1) (fun v hv=>nomatch hv)
 rw [fM] at this;grind
theorem cX.at {P:List Q2} {a b:Q2} {t:Rat} (ha:cX P a) (hb:cX P b) (h0:0≤t) (h1:t≤1):cX P (atR a b t):=fun f hf=>by
 rw [xh]; exact qe h0 h1 (ha f hf) (hb f hf)
theorem OC {m:Q3} {P:List Q2} {x:Q2} (h:x∈cB m P):(x∈P∧0≤aj m x)∨∃ e∈aY P,x∈fG m e.1 e.2:=by
 unfold cB at h;obtain ⟨e,he,hx⟩:=List.mem_flatMap.1 h;rcases List.mem_append.1 hx with hx | hx
 ·left
  unfold im at hx
  split at hx
  ·rename_i hc;simp at hx;rw [hx];exact ⟨(lu he).1,lC.1 hc⟩
  ·cases hx
 ·exact .inr ⟨e,he,hx⟩
theorem Ut {α:Type} {l:List α} {x:α} (h:x∈l):∃ y,(x,y)∈aY l:=by
 obtain ⟨i,hi,rfl⟩:=List.getElem_of_mem h;have J:(i+1) % l.length < l.length:=Nat.mod_lt _ (by omega)
 have:=qf (List.getElem?_eq_getElem hi) (List.getElem?_eq_getElem J);exact ⟨_,List.mem_of_getElem? this⟩
theorem NH {m:Q3} {P:List Q2} {x:Q2} (h:x∈P) (hm:0≤aj m x):x∈cB m P:=by
 obtain ⟨y,hy⟩:=Ut h;unfold cB;refine List.mem_flatMap.2 ⟨_,hy,List.mem_append_left _ ?_⟩;unfold im;rw [if_pos (lC.2 hm)];exact List.mem_cons_self ..
theorem MT {m:Q3} {P:List Q2} {x y:Q2} (he:(x,y)∈aY P) (h:(0≤aj m x∧aj m y < 0)∨(aj m x≤0∧0 < aj m y)):∃ t,0≤t∧t≤1∧atR x y t∈cB m P∧aj m (atR x y t)=0:=by
 by_cases h0:aj m x=0
 ·refine ⟨0,by grind,by grind,?_,by rw [xh,h0]; grind⟩
  have:atR x y 0=x:=by unfold atR; exact Prod.ext (by grind) (by grind)
  rw [this];exact NH (lu he).1 (by grind)
 ·have J:(0 < aj m x∧aj m y < 0)∨(aj m x < 0∧0 < aj m y):=by grind
  have h3:=yZ J;have h4:=rX (x:=atR x y (gI m x y)) (by rw [h3]; simp)
  refine ⟨_,h4.2.2.1,h4.2.2.2.1,?_,h4.2.2.2.2⟩;unfold cB;exact List.mem_flatMap.2 ⟨_,he,List.mem_append_right _ (by rw [h3]; simp)⟩
theorem MU {m:Q3}:∀ (l:List Q2) (a:Q2),0≤aj m a→(∃ w∈l,aj m w < 0)→∃ x y,(x,y)∈bA (a::l)∧0≤aj m x∧aj m y < 0:=by
 intro l
 induction l with
 | nil=>rintro a _ ⟨w,hw,_⟩; cases hw
 | cons b l ih =>
  rintro a ha ⟨w,hw,hm⟩
  rw [iS];by_cases hb:aj m b < 0
  ·exact ⟨a,b,List.mem_cons_self ..,ha,hb⟩
  ·rcases List.mem_cons.1 hw with rfl | hw
   ·exact absurd hm hb
   ·obtain ⟨x,y,h1,J⟩:=ih b (by grind) ⟨w,hw,hm⟩
    exact ⟨x,y,List.mem_cons_of_mem _ h1,J⟩
def kq (m:Q3):Q3:=(-m.1,-m.2.1,-m.2.2)
theorem oX (m:Q3) (p:Q2):aj (kq m) p=-aj m p:=by rw [fM,fM]; unfold kq; grind
theorem Uu {m:Q3} (l:List Q2) (a:Q2) (h:aj m a≤0) (hw:∃ w∈l,0 < aj m w):∃ x y,(x,y)∈bA (a::l)∧aj m x≤0∧0 < aj m y:=by
 obtain ⟨x,y,h1,J,h3⟩:=MU (m:=kq m) l a (by rw [oX]; grind) (by obtain ⟨w,h1,J⟩:=hw; exact ⟨w,h1,by rw [oX]; grind⟩)
 rw [oX] at J h3;exact ⟨x,y,h1,by grind,by grind⟩
theorem Uv (f m:Q3) (v w z:Q2):∃ α β γ:Rat,(∀ z,(aj m v - aj m w)*aj f z=α*aj m z+β*ao v w z+γ):=by
 refine ⟨-(f.1*(w.1 - v.1)+f.2.1*(w.2 - v.2)),-(m.1*f.2.1 - m.2.1*f.1),(aj m v - aj m w)*aj f v - -(f.1*(w.1 - v.1)+f.2.1*(w.2 - v.2))*aj m v,fun z=>?_⟩
 simp only [fM,dm];grind
theorem Uw (f m:Q3):∀ P:List Q2,∃ k:Rat,0≤k∧(∀ v∈P,aj m v < 0→0≤aj f v - k*aj m v)∧(k=0∨∃ w∈P,aj m w < 0∧aj f w=k*aj m w):=by
 intro P
 induction P with
 | nil=>exact ⟨0,by grind,(fun v hv=>by cases hv),.inl rfl⟩
 | cons v P ih =>
  obtain ⟨k,hk,h1,J⟩:=ih;by_cases hv:aj m v < 0∧aj f v - k*aj m v < 0
  ·obtain ⟨nH,EB⟩:=hv;have e:aj f v / aj m v*aj m v=aj f v:=by rw [Rat.div_def]; grind
   obtain ⟨j,hj⟩:∃ j,j=aj f v / aj m v:=⟨_,rfl⟩;rw [← hj] at e;have al:k < j:=by
    by_cases h:k < j
    ·exact h
    ·have:=Rat.mul_nonneg (show 0≤k - j by grind) (show 0≤-aj m v by grind)
     grind
   refine ⟨j,by grind,fun u hu hm=>?_,.inr ⟨v,List.mem_cons_self ..,nH,e.symm⟩⟩
   rcases List.mem_cons.1 hu with rfl | hu
   ·rw [e]; grind
   ·have h3:=h1 u hu hm;have:=Rat.mul_nonneg (show 0≤j - k by grind) (show 0≤-aj m u by grind)
    grind
  ·refine ⟨k,hk,fun u hu hm=>?_,?_⟩
   ·rcases List.mem_cons.1 hu with rfl | hu
    ·have:¬ (aj f u - k*aj m u < 0):=fun h=>hv ⟨hm,h⟩
     grind
    ·exact h1 u hu hm
   ·rcases J with J | ⟨w,hw,J⟩
    ·exact .inl J
    ·exact .inr ⟨w,List.mem_cons_of_mem _ hw,J⟩
theorem bz.mid {v w x:Q2} {A B:List Q2} (h:bz (v::A++w::B)) (hx:x∈v::A++[w]):ao v w x≤0:=by
 have hl:List.Pairwise (fun b c=>0≤ao v b c) (A++w::B):=h.1
 rw [List.pairwise_append] at hl;simp only [List.cons_append,List.mem_cons,List.mem_append,List.not_mem_nil,or_false] at hx;rcases hx with rfl | hx | rfl
 ·rw [qB]; grind
 ·have:=hl.2.2 x hx w (List.mem_cons_self ..);rw [zc]; grind
 ·rw [nT]; grind
theorem bz.back {v w x:Q2} {A B:List Q2} (h:bz (v::A++w::B)) (hx:x∈w::B++[v]):0≤ao v w x:=by
 have hl:List.Pairwise (fun b c=>0≤ao v b c) (A++w::B):=h.1
 rw [List.pairwise_append,List.pairwise_cons] at hl;simp only [List.cons_append,List.mem_cons,List.mem_append,List.not_mem_nil,or_false] at hx;rcases hx with rfl | hx | rfl
 ·rw [nT]; grind
 ·exact hl.2.1.1 x hx
 ·rw [qB]; grind
theorem Yg {m f:Q3} {P:List Q2} {v w:Q2} (hT:bz P) (hf:∀ x∈cB m P,0≤aj f x) (hv:v∈P) (hw:w∈P) (tI:0 < aj m v) (J1:aj m w < 0):0≤aj f v*(-aj m w)+aj f w*aj m v:=by
 obtain ⟨P1,P2,rfl⟩:=List.append_of_mem hv;have JI:w∈P2++P1:=by
  rcases List.mem_append.1 hw with h | h
  ·exact List.mem_append_right _ h
  ·rcases List.mem_cons.1 h with rfl | h
   ·grind
   ·exact List.mem_append_left _ h
 obtain ⟨A,B,mh⟩:=List.append_of_mem JI;have jD:bz (v::A++w::B):=by
  have:=hT.tR;rw [List.cons_append,mh] at this;exact this
 have P7:∀ e,e∈aY (v::A++w::B)→e∈aY (P1++v::P2):=fun e he=>by
  refine yY (A:=v::P2) ?_;rw [List.cons_append,mh]; exact he
 have Pr:aY (v::A++w::B)=bA (v::A++[w])++bA (w::B++[v]):=by
  show bA ((v::A++w::B)++[v])=_
  rw [List.append_assoc];exact oT (v::A) (B++[v]) w
 obtain ⟨x1,y1,RQ,tD,ny⟩:=MU (m:=m) (A++[w]) v (by grind) ⟨w,by simp,J1⟩
 obtain ⟨x2,y2,cg,oi,oj⟩:=Uu (m:=m) (B++[v]) w (by grind) ⟨v,by simp,tI⟩
 have m1:=FD RQ;have m2:=FD cg;obtain ⟨t1,A0,RI,rG,Rh⟩:=MT (P7 _ (by rw [Pr]; exact List.mem_append_left _ RQ)) (.inl ⟨tD,ny⟩)
 obtain ⟨t2,h20,h21,JQ,bN⟩:=MT (P7 _ (by rw [Pr]; exact List.mem_append_right _ cg)) (.inr ⟨oi,oj⟩)
 have JJ:=hf _ rG;have J2:=hf _ JQ;have hg1:ao v w (atR x1 y1 t1)≤0:=by
  rw [zd];have:=qe A0 RI (show 0≤-ao v w x1 by have:=jD.mid m1.1; grind) (show 0≤-ao v w y1 by have:=jD.mid m1.2; grind)
  grind
 have tS:0≤ao v w (atR x2 y2 t2):=by
  rw [zd];exact qe h20 h21 (jD.back m2.1) (jD.back m2.2)
 obtain ⟨α,β,γ,hF⟩:=Uv f m v w v;have ev:=hF v;have ew:=hF w;have e1:=hF (atR x1 y1 t1);have e2:=hF (atR x2 y2 t2);rw [Rh] at e1;rw [bN] at e2;rw [qB] at ev;rw [nT] at ew;obtain ⟨D,hD⟩:∃ D,D=aj m v - aj m w:=⟨_,rfl⟩;have yB:0 < D:=by grind
 rw [← hD] at ev ew e1 e2;have yz:0≤γ:=by
  by_cases hβ:0≤β
  ·have a:=Rat.mul_nonneg hβ (show 0≤-ao v w (atR x1 y1 t1) by grind)
   have b:=Rat.mul_nonneg (show 0≤D by grind) JJ
   grind
  ·have a:=Rat.mul_nonneg (show 0≤-β by grind) tS
   have b:=Rat.mul_nonneg (show 0≤D by grind) J2
   grind
 have:D*(aj f v*(-aj m w)+aj f w*aj m v)=D*γ:=by grind
 have:aj f v*(-aj m w)+aj f w*aj m v=γ:=by
  have h:=congrArg (· / D) this;simp only [Rat.div_def] at h;grind
 rw [this]; exact yz
theorem W2 {m:Q3} {P:List Q2} {p:Q2} (hT:bz P) (h:cX P p) (hm:0≤aj m p):cX (cB m P) p:=fun f hf=>by
 obtain ⟨k,hk,h1,J⟩:=Uw f m P;have hg:∀ v∈P,0≤aj (f.1 - k*m.1,f.2.1 - k*m.2.1,f.2.2 - k*m.2.2) v:=fun v hv=>by
  have e:aj (f.1 - k*m.1,f.2.1 - k*m.2.1,f.2.2 - k*m.2.2) v=aj f v - k*aj m v:=by simp only [fM]; grind
  rw [e];by_cases hn:aj m v < 0
  ·exact h1 v hv hn
  ·have hfv:=hf v (NH hv (by grind))
   rcases J with rfl | ⟨w,hw,J1,hfw⟩
   ·grind
   ·by_cases h0:aj m v=0
    ·rw [h0]; grind
    ·have:=Yg hT hf hv hw (by grind) J1
     rw [hfw] at this;have e2:aj f v*-aj m w+k*aj m w*aj m v=(aj f v - k*aj m v)*(-aj m w):=by grind
     rw [e2] at this;by_cases h3:0≤aj f v - k*aj m v
     ·exact h3
     ·have:=Rat.mul_pos (show 0 < -(aj f v - k*aj m v) by grind) (show 0 < -aj m w by grind)
      grind
 have:=h _ hg;have e:aj (f.1 - k*m.1,f.2.1 - k*m.2.1,f.2.2 - k*m.2.2) p=aj f p - k*aj m p:=by simp only [fM]; grind
 rw [e] at this;have:=Rat.mul_nonneg hk hm;grind
theorem NI {m:Q3} {P:List Q2} {x:Q2} (h:x∈cB m P):cX P x∧0≤aj m x:=by
 rcases OC h with ⟨h1,J⟩ | ⟨e,he,hx⟩
 ·exact ⟨.lH h1,J⟩
 ·have:=rX hx;refine ⟨?_,by rw [this.2.2.2.2]; grind⟩
  rw [this.2.1];exact (cX.lH (lu he).1).at (.lH (lu he).2) this.2.2.1 this.2.2.2.1
theorem K2 {m:Q3} {P:List Q2} {p:Q2} (hT:bz P):cX (cB m P) p↔cX P p∧0≤aj m p :=
 ⟨fun h=>⟨h.trans fun v hv=>(NI hv).1,h m fun v hv=>(NI hv).2⟩,fun h=>W2 hT h.1 h.2⟩
open Go
def pW (a b:Q2):Q3:=(-(b.2 - a.2),b.1 - a.1,(b.1 - a.1)*a.2 - (b.2 - a.2)*a.1)
theorem o5 (a b z:Q2):aj (pW a b) z=ao a b z:=by simp only [fM,dm,pW]; grind
def IZ (f g:Q3):Q3:=(f.1+g.1,f.2.1+g.2.1,f.2.2+g.2.2)
theorem NJ (f g:Q3) (z:Q2):aj (IZ f g) z=aj f z+aj g z:=by simp only [fM,IZ]; grind
theorem Hc {a b:Q2} (h:a≠b):gP (pW a b):=fun ⟨h1,J⟩=>h (Prod.ext (by unfold pW at J; grind) (by unfold pW at h1; grind))
theorem K3 {α:Type} {l:List α} {e:α × α} (h:e∈bA l):∃ A B,l=A++e.1::e.2::B:=by
 induction l with
 | nil=>cases h
 | cons a l ih =>
  cases l with
  | nil=>cases h
  | cons b l =>
   rw [iS] at h;rcases List.mem_cons.1 h with rfl | h
   ·exact ⟨[],l,rfl⟩
   ·obtain ⟨A,B,mh⟩:=ih h;exact ⟨a::A,B,by rw [mh]; rfl⟩
theorem W3 {α:Type} {P:List α} {a b:α} (h:(a,b)∈aY P):(P=[a]∧b=a)∨∃ X Y M,P=X++Y∧Y++X=a::b::M:=by
 cases P with
 | nil=>cases h
 | cons c l =>
  obtain ⟨A,B,mh⟩:=K3 h;have mh:c::l++[c]=A++a::b::B:=mh;rcases List.eq_nil_or_concat B with rfl | ⟨B,d,rfl⟩
  ·have h1:c::l++[c]=(A++[a])++[b]:=by rw [mh]; simp
   have J:=List.append_inj' h1 rfl;simp at J;obtain ⟨J,h3⟩:=J;cases A with
   | nil =>
    simp at J
    left; rw [J.1,J.2]; exact ⟨rfl,h3.symm.trans J.1⟩
   | cons x A =>
    right
    refine ⟨x::A,[a],A,by rw [J],?_⟩
    have:c=x:=by injection J
    show a::x::A=_
    rw [← this,h3]
  ·have h1:c::l++[c]=(A++a::b::B)++[d]:=by rw [mh]; simp
   have J:=(List.append_inj' h1 rfl).1
   right
   exact ⟨A,a::b::B,B++A,J,rfl⟩
theorem oW {P:List Q2} {a b z:Q2} (hT:bz P) (h:(a,b)∈aY P) (hz:z∈P):0≤ao a b z:=by
 rcases W3 h with ⟨rfl,rfl⟩ | ⟨X,Y,M,rfl,J⟩
 ·rw [CL]; grind
 ·have jD:=hT.tR;rw [J] at jD;have ow:z∈a::b::M:=by
   rw [← J]; rcases List.mem_append.1 hz with h | h
   ·exact List.mem_append_right _ h
   ·exact List.mem_append_left _ h
  have:=jD.1;unfold pF at this;rw [List.pairwise_cons] at this;rcases List.mem_cons.1 ow with rfl | ow
  ·rw [qB]; grind
  ·rcases List.mem_cons.1 ow with rfl | ow
   ·rw [nT]; grind
   ·exact this.1 z ow
theorem Cb {P:List Q2} {a b z:Q2} (hT:bz P) (h:(a,b)∈aY P) (hz:cX P z):0≤ao a b z:=by
 rw [← o5];exact hz _ fun v hv=>by rw [o5]; exact oW hT h hv
def fK (P:List Q2) (v:Q2):Prop:=cX P v∧∃ f,aj f v=0∧∀ z,cX P z→z≠v→0 < aj f z
def iu (P Q:List Q2):Prop:=∀ p,cX P p↔cX Q p
theorem iu.symm {P Q:List Q2} (h:iu P Q):iu Q P:=fun p=>(h p).symm
theorem iu.trans {P Q R:List Q2} (h:iu P Q) (g:iu Q R):iu P R:=fun p=>(h p).trans (g p)
theorem iu.rfl' {P:List Q2}:iu P P:=fun p=>Iff.rfl
theorem iu.lH {P Q:List Q2} (h:∀ v,v∈P↔v∈Q):iu P Q:=fun p=>⟨fun hp=>hp.mono fun v hv=>(h v).1 hv,fun hp=>hp.mono fun v hv=>(h v).2 hv⟩
theorem fK.same {P Q:List Q2} {v:Q2} (h:fK P v) (hs:iu P Q):fK Q v :=
 ⟨(hs v).1 h.1,h.2.imp fun f hf=>⟨hf.1,fun z hz aD=>hf.2 z ((hs z).2 hz) aD⟩⟩
theorem VJ (f:Q3):∀ P:List Q2,(∀ v∈P,0 < aj f v)→∃ e:Rat,0 < e∧∀ v∈P,e≤aj f v:=by
 intro P
 induction P with
 | nil=>exact fun _=>⟨1,by grind,fun v hv=>by cases hv⟩
 | cons a P ih =>
  intro h;obtain ⟨e,he,hP⟩:=ih fun v hv=>h v (List.mem_cons_of_mem _ hv)
  have ha:=h a (List.mem_cons_self ..);by_cases hc:e≤aj f a
  ·exact ⟨e,he,fun v hv=>by rcases List.mem_cons.1 hv with rfl | hv; exact hc; exact hP v hv⟩
  ·exact ⟨aj f a,ha,fun v hv=>by
    rcases List.mem_cons.1 hv with rfl | hv
    ·grind
    ·have:=hP v hv; grind⟩
theorem fK.mem {P:List Q2} {v:Q2} (h:fK P v):v∈P:=by
 refine Decidable.byContradiction fun hn=>?_
 obtain ⟨h1,f,J,h3⟩:=h;obtain ⟨e,he,h4⟩:=VJ f P fun z hz=>h3 z (.lH hz) fun e=>hn (e ▸ hz)
 have:=h1 (f.1,f.2.1,f.2.2+e) fun z hz=>by
  have:=h4 z hz;have e2:aj (f.1,f.2.1,f.2.2+e) z=aj f z - e:=by simp only [fM]; grind
  rw [e2]; grind
 have e2:aj (f.1,f.2.1,f.2.2+e) v=aj f v - e:=by simp only [fM]; grind
 rw [e2,J] at this;grind
theorem Yh {p v q z:Q2} (h1:ao p v z=0) (J:ao v q z=0) (h:ao p v q≠0):z=v:=by
 rw [dm] at h1 J h;have a:((v.1 - p.1)*(q.2 - p.2) - (v.2 - p.2)*(q.1 - p.1))*(z.1 - v.1)=0:=by grind
 have b:((v.1 - p.1)*(q.2 - p.2) - (v.2 - p.2)*(q.1 - p.1))*(z.2 - v.2)=0:=by grind
 have a:=(Rat.mul_eq_zero.1 a).resolve_left h;have b:=(Rat.mul_eq_zero.1 b).resolve_left h;exact Prod.ext (by grind) (by grind)
theorem L7 {P:List Q2} {p v q:Q2} (hT:bz P) (h1:(p,v)∈aY P) (J:(v,q)∈aY P) (h:ao p v q≠0):fK P v:=by
 refine ⟨.lH (lu J).1,IZ (pW p v) (pW v q),?_,fun z hz aD=>?_⟩
 ·rw [NJ,o5,o5,nT,qB]; grind
 ·rw [NJ,o5,o5];have a:=Cb hT h1 hz;have b:=Cb hT J hz;by_cases h0:ao p v z+ao v q z=0
  ·exact absurd (Yh (by grind) (by grind) h) aD
  ·grind
theorem fK.BJ {P:List Q2} {v a b:Q2} {t:Rat} (h:fK P v) (ha:cX P a) (hb:cX P b) (hav:a≠v) (hbv:b≠v) (h0:0 < t) (h1:t < 1):v≠atR a b t:=fun e=>by
 obtain ⟨_,f,J,h3⟩:=h;have x:=h3 a ha hav;have y:=h3 b hb hbv;rw [e,xh] at J;have:=Rat.mul_pos (show 0 < 1 - t by grind) x
 have:=Rat.mul_pos h0 y;grind
def Flat (P:List Q2):Prop:=∃ f,gP f∧∀ v∈P,aj f v=0
theorem W4 {P:List Q2} {a b:Q2} (h:¬ Flat P) (c9:a≠b):∃ z∈P,ao a b z≠0:=by
 refine Decidable.byContradiction fun hn=>h ⟨pW a b,Hc c9,fun v hv=>?_⟩
 rw [o5];exact Decidable.byContradiction fun h=>hn ⟨v,hv,h⟩
theorem Flat.mono {P Q:List Q2} (h:Flat Q) (hs:∀ v∈P,v∈Q):Flat P:=h.imp fun f hf=>⟨hf.1,fun v hv=>hf.2 v (hs v hv)⟩
theorem L8 {P:List Q2} {p v q:Q2} (hT:bz P) (hF:¬ Flat P) (h1:(p,v)∈aY P) (J:(v,q)∈aY P) (mi:p≠v) (cY:v≠q) (h:ao p v q=0):∃ t,0 < t∧t < 1∧v=atR p q t:=by
 obtain ⟨z,hz,nM⟩:=W4 hF mi;have a:=oW hT h1 hz;have b:=oW hT J hz;obtain ⟨s,RR,pR⟩:∃ s:Rat,q.1 - v.1=s*(v.1 - p.1)∧q.2 - v.2=s*(v.2 - p.2):=by
  rw [dm] at h;by_cases hx:v.1 - p.1=0
  ·have hy:v.2 - p.2≠0:=fun hy=>mi (Prod.ext (by grind) (by grind))
   refine ⟨(q.2 - v.2) / (v.2 - p.2),?_,?_⟩
   ·rw [hx] at h ⊢;have:(v.2 - p.2)*(q.1 - p.1)=0:=by grind
    have:=(Rat.mul_eq_zero.1 this).resolve_left hy;grind
   ·rw [Rat.div_def]; grind
  ·refine ⟨(q.1 - v.1) / (v.1 - p.1),?_,?_⟩
   ·rw [Rat.div_def]; grind
   ·rw [Rat.div_def];have:(v.1 - p.1)*(q.2 - v.2)=(v.1 - p.1)*((q.1 - v.1)*(v.1 - p.1)⁻¹*(v.2 - p.2)):=by grind
    have h0:(v.1 - p.1)*((q.2 - v.2) - ((q.1 - v.1)*(v.1 - p.1)⁻¹*(v.2 - p.2)))=0:=by grind
    have:=(Rat.mul_eq_zero.1 h0).resolve_left hx;grind
 have e:ao v q z=s*ao p v z:=by
  rw [dm,dm,RR,pR]; grind
 have hs:0 < s:=by
  by_cases h0:s=0
  ·subst h0;exact absurd (Prod.ext (by grind) (by grind)) cY
  ·by_cases h1:0 < s
   ·exact h1
   ·have:=Rat.mul_pos (show 0 < -s by grind) (show 0 < ao p v z by grind)
    grind
 have aD:1+s≠0:=by grind
 have hi:(1+s)⁻¹*(1+s)=1:=by grind
 have gd:0 < (1+s)⁻¹:=by
  by_cases h1:0 < (1+s)⁻¹
  ·exact h1
  ·have:=Rat.mul_nonneg (show 0≤-(1+s)⁻¹ by grind) (show 0≤1+s by grind)
   grind
 refine ⟨(1+s)⁻¹,gd,?_,?_⟩
 ·have:=Rat.mul_pos gd hs;grind
 ·unfold atR;refine Prod.ext ?_ ?_
  ·have:q.1 - p.1=(1+s)*(v.1 - p.1):=by grind
   show v.1=p.1+(q.1 - p.1)*(1+s)⁻¹
   rw [this]; grind
  ·have:q.2 - p.2=(1+s)*(v.2 - p.2):=by grind
   show v.2=p.2+(q.2 - p.2)*(1+s)⁻¹
   rw [this]; grind
theorem W5 {α:Type} [DecidableEq α]:∀ {l:List α},(∀ A h B C,l≠A++h::B++h::C)→l.Nodup:=by
 intro l
 induction l with
 | nil=>exact fun _=>.nil
 | cons a l ih =>
  intro h;rw [List.nodup_cons];refine ⟨fun hm=>?_,ih fun A x B C e=>h (a::A) x B C (by rw [e]; rfl)⟩
  obtain ⟨B,C,e⟩:=List.append_of_mem hm;exact h [] a B C (by rw [e]; rfl)
theorem Flat.tR {A B:List Q2} (h:Flat (A++B)):Flat (B++A):=h.mono fun v hv=>by
 rcases List.mem_append.1 hv with h | h
 ·exact List.mem_append_right _ h
 ·exact List.mem_append_left _ h
theorem L9 {P:List Q2} (hT:bz P) (hF:¬ Flat P) (aD:∀ e∈aY P,e.1≠e.2):P.Nodup:=by
 refine W5 fun A h B C e=>?_
 subst e;have jD:bz (h::B++h::(C++A)):=by
  have:=bz.tR (A:=A) (B:=h::B++h::C) (by simpa using hT)
  simpa using this
 have EH:¬ Flat (h::B++h::(C++A)):=fun J=>hF (by
  have:=Flat.tR (A:=h::B++h::C) (B:=A) (by simpa using J)
  simpa using this)
 have Ap:∀ e∈aY (h::B++h::(C++A)),e.1≠e.2:=fun e he=>aD e (by
  have:=yY (A:=h::B++h::C) (B:=A) (e:=e) (by simpa using he)
  simpa using this)
 generalize C++A=D at jD EH Ap;cases B with
 | nil=>exact Ap (h,h) (by rw [show h::([]:List Q2)++h::D=h::h::D from rfl,nP]; exact List.mem_cons_self ..) rfl
 | cons q B =>
  cases D with
  | nil =>
   refine Ap (h,h) ?_ rfl;show (h,h)∈bA ((h::q::B++[h])++[h])
   rw [List.append_assoc];show (h,h)∈bA (h::q::B++h::[h])
   rw [oT];exact List.mem_append_right _ (List.mem_cons_self ..)
  | cons r D =>
   have e1:(h,q)∈aY (h::(q::B)++h::r::D):=by
    show (h,q)∈bA (h::q::(B++h::r::D++[h]))
    exact List.mem_cons_self ..
   have e2:(h,r)∈aY (h::(q::B)++h::r::D):=by
    show (h,r)∈bA ((h::(q::B)++h::r::D)++[h])
    rw [List.append_assoc];show (h,r)∈bA (h::(q::B)++h::(r::D++[h]))
    rw [oT];exact List.mem_append_right _ (List.mem_cons_self ..)
   have hq:h≠q:=Ap _ e1;have hr:h≠r:=Ap _ e2;have hD:∀ z∈r::D,ao h q z=0:=fun z hz=>by
    have a:=oW jD e1 (z:=z) (List.mem_append_right _ (List.mem_cons_of_mem _ hz));have hl:bz (q::B++h::r::D):=jD.2;have:=bz.mid (A:=B) (B:=r::D) (x:=z) (v:=q) (w:=h);have hb:=bz.back (A:=B) (B:=r::D) (x:=z) (v:=q) (w:=h) hl (by
     show z∈h::(r::D)++[q]
     exact List.mem_append_left _ (List.mem_cons_of_mem _ hz))
    have:ao q h z=-ao h q z:=by rw [dm,dm]; grind
    grind
   have hB:∀ z∈q::B,ao h r z=0:=fun z hz=>by
    have a:=oW jD e2 (z:=z) (List.mem_append_left _ (List.mem_cons_of_mem _ hz));have hl:List.Pairwise (fun b c=>0≤ao h b c) (q::B++h::r::D):=jD.1
    rw [List.pairwise_append] at hl;have:=hl.2.2 z hz r (List.mem_cons_of_mem _ (List.mem_cons_self ..));rw [zc] at this;grind
   refine EH ⟨pW h q,Hc hq,fun v hv=>?_⟩
   rw [o5];have JY:=hB q (List.mem_cons_self ..);rcases List.mem_append.1 hv with hv | hv
   ·rcases List.mem_cons.1 hv with rfl | hv
    ·exact qB _ _
    ·have EB:=hB v hv;rw [dm] at EB JY ⊢;have IT:r.1 - h.1≠0∨r.2 - h.2≠0:=by
      by_cases x:r.1 - h.1=0
      ·right; exact fun y=>hr (Prod.ext (by grind) (by grind))
      ·exact .inl x
     rcases IT with x | x
     ·have:(r.1 - h.1)*((q.1 - h.1)*(v.2 - h.2) - (q.2 - h.2)*(v.1 - h.1))=0:=by grind
      exact (Rat.mul_eq_zero.1 this).resolve_left x
     ·have:(r.2 - h.2)*((q.1 - h.1)*(v.2 - h.2) - (q.2 - h.2)*(v.1 - h.1))=0:=by grind
      exact (Rat.mul_eq_zero.1 this).resolve_left x
   ·rcases List.mem_cons.1 hv with rfl | hv
    ·exact qB _ _
    ·exact hD v hv
theorem SM {α:Type} {R:α→α→Prop} (has:∀ a b,R a b→¬ R b a):∀ {l m:List α},l.Pairwise R→m.Pairwise R→(∀ x,x∈l↔x∈m)→l=m:=by
 intro l
 induction l with
 | nil =>
  intro m _ _ h;cases m with
  | nil=>rfl
  | cons b m=>have:=(h b).2 (List.mem_cons_self ..); cases this
 | cons a l ih =>
  intro m hl hm h;cases m with
  | nil=>have:=(h a).1 (List.mem_cons_self ..); cases this
  | cons b m =>
   rw [List.pairwise_cons] at hl hm;have RS:∀ x,¬ R x x:=fun x hx=>has x x hx hx
   have c9:a=b:=by
    rcases List.mem_cons.1 ((h a).1 (List.mem_cons_self ..)) with e | e
    ·exact e
    ·rcases List.mem_cons.1 ((h b).2 (List.mem_cons_self ..)) with e2 | e2
     ·exact e2.symm
     ·exact absurd (hl.1 b e2) (has _ _ (hm.1 a e))
   subst c9;rw [ih hl.2 hm.2 fun x=>⟨fun hx=>?_,fun hx=>?_⟩]
   ·rcases List.mem_cons.1 ((h x).1 (List.mem_cons_of_mem _ hx)) with e | e
    ·subst e; exact absurd (hl.1 _ hx) (RS _)
    ·exact e
   ·rcases List.mem_cons.1 ((h x).2 (List.mem_cons_of_mem _ hx)) with e | e
    ·subst e; exact absurd (hm.1 _ hx) (RS _)
    ·exact e
theorem Br {P:List Q2} {a b c:Q2} (ha:fK P a) (hb:fK P b) (hc:fK P c) (c9:a≠b) (A4:a≠c) (pQ:b≠c):ao a b c≠0:=fun h=>by
 obtain ⟨s,RR,pR⟩:∃ s:Rat,c.1 - a.1=s*(b.1 - a.1)∧c.2 - a.2=s*(b.2 - a.2):=by
  rw [dm] at h;by_cases hx:b.1 - a.1=0
  ·have hy:b.2 - a.2≠0:=fun hy=>c9 (Prod.ext (by grind) (by grind))
   refine ⟨(c.2 - a.2) / (b.2 - a.2),?_,?_⟩
   ·rw [hx] at h ⊢;have:(b.2 - a.2)*(c.1 - a.1)=0:=by grind
    have:=(Rat.mul_eq_zero.1 this).resolve_left hy;grind
   ·rw [Rat.div_def]; grind
  ·refine ⟨(c.1 - a.1) / (b.1 - a.1),?_,?_⟩
   ·rw [Rat.div_def]; grind
   ·rw [Rat.div_def];have h0:(b.1 - a.1)*((c.2 - a.2) - ((c.1 - a.1)*(b.1 - a.1)⁻¹*(b.2 - a.2)))=0:=by grind
    have:=(Rat.mul_eq_zero.1 h0).resolve_left hx;grind
 have h0:s≠0:=fun e=>by subst e; exact A4 (Prod.ext (by grind) (by grind))
 have h1:s≠1:=fun e=>by subst e; exact pQ (Prod.ext (by grind) (by grind))
 have inv:∀ x:Rat,0 < x→0 < x⁻¹∧x⁻¹*x=1:=fun x hx=>by
  have e:x⁻¹*x=1:=by grind
  refine ⟨?_,e⟩;by_cases h1:0 < x⁻¹
  ·exact h1
  ·have:=Rat.mul_nonneg (show 0≤-x⁻¹ by grind) (show 0≤x by grind)
   grind
 rcases RP s with h | h | h
 ·-- a lies between c and b
  obtain ⟨i0,i1⟩:=inv (1 - s) (by grind)
  refine ha.BJ hc.1 hb.1 (Ne.symm A4) (Ne.symm c9) (t:=(-s)*(1 - s)⁻¹) (Rat.mul_pos (by grind) i0) ?_ ?_
  ·grind
  ·unfold atR; exact Prod.ext (by grind) (by grind)
 ·exact h0 h
 ·by_cases J:s < 1
  ·-- c lies between a and b
   refine hc.BJ ha.1 hb.1 A4 pQ h J ?_;unfold atR; exact Prod.ext (by grind) (by grind)
  ·obtain ⟨i0,i1⟩:=inv s h;refine hb.BJ ha.1 hc.1 c9 (Ne.symm pQ) (t:=s⁻¹) i0 ?_ ?_
   ·have:=Rat.mul_pos i0 (show 0 < s - 1 by grind); grind
   ·unfold atR; exact Prod.ext (by grind) (by grind)
theorem Ln {P:List Q2} {h:Q2} {A B:List Q2} (hA:bz (h::A)) (hB:bz (h::B)) (nA:(h::A).Nodup) (nB:(h::B).Nodup) (eA:∀ v,v∈h::A↔fK P v) (eB:∀ v,v∈h::B↔fK P v):A=B:=by
 have key:∀ {A:List Q2},bz (h::A)→(h::A).Nodup→(∀ v,v∈h::A↔fK P v)→A.Pairwise (fun a b=>0 < ao h a b):=by
  intro A hA nA eA;rw [List.nodup_cons] at nA;have h1:List.Pairwise (fun a b=>0≤ao h a b) A:=hA.1
  have J:List.Pairwise (fun a b=>a≠b) A:=nA.2
  have h3:=List.Pairwise.and_mem.1 (h1.and J);refine h3.imp fun {a b} ⟨ha,hb,h4,h5⟩=>?_
  have:=Br ((eA h).1 (List.mem_cons_self ..)) ((eA a).1 (List.mem_cons_of_mem _ ha)) ((eA b).1 (List.mem_cons_of_mem _ hb)) (fun e=>nA.1 (e ▸ ha)) (fun e=>nA.1 (e ▸ hb)) h5
  grind
 rw [List.nodup_cons] at nA nB;refine SM (R:=fun a b=>0 < ao h a b) (fun a b x y=>by rw [zc] at y; grind) (key hA (List.nodup_cons.2 nA) eA) (key hB (List.nodup_cons.2 nB) eB) fun x=>?_
 constructor
 ·intro hx;have:=(eB x).2 ((eA x).1 (List.mem_cons_of_mem _ hx));rcases List.mem_cons.1 this with e | e
  ·subst e; exact absurd hx nA.1
  ·exact e
 ·intro hx;have:=(eA x).2 ((eB x).1 (List.mem_cons_of_mem _ hx));rcases List.mem_cons.1 this with e | e
  ·subst e; exact absurd hx nB.1
  ·exact e
open Go
def aq (l:List Q2) (k:Nat):Q2:=l.getD k (0,0)
theorem ig {l:List Q2} {k:Nat} (h:k < l.length):l[k]?=some (aq l k):=by
 unfold aq; rw [List.getD_eq_getElem?_getD,List.getElem?_eq_getElem h]; rfl
theorem m6 {l:List Q2} {k:Nat} {p:Q2} (h:l[k]?=some p):aq l k=p:=by
 unfold aq; rw [List.getD_eq_getElem?_getD,h]; rfl
theorem eO {l:List Q2} {k:Nat} (h:k < l.length):aq l k∈l:=List.mem_of_getElem? (ig h)
theorem o6 {l:List Q2} {v:Q2} (h:v∈l):∃ k,k < l.length∧aq l k=v:=by
 obtain ⟨k,hk,rfl⟩:=List.getElem_of_mem h;exact ⟨k,hk,m6 (List.getElem?_eq_getElem hk)⟩
def aX (n k:Nat):Nat:=(k+1) % n
def db (n k:Nat):Nat:=(k+n - 1) % n
theorem cI {n k:Nat} (h:k < n):aX n k < n:=Nat.mod_lt _ (by omega)
theorem jo {n k:Nat} (h:k < n):db n k < n:=Nat.mod_lt _ (by omega)
theorem CM {n k:Nat} (h:k < n):aX n (db n k)=k:=by
 unfold aX db;rw [Nat.mod_add_mod,show k+n - 1+1=k+n by omega,Nat.add_mod_right,Nat.mod_eq_of_lt h]
theorem zn {n k:Nat} (h:k < n):db n (aX n k)=k:=by
 unfold aX db;rcases Nat.lt_or_eq_of_le (show k+1≤n from h) with h1 | h1
 ·rw [Nat.mod_eq_of_lt h1,show k+1+n - 1=k+n by omega,Nat.add_mod_right,Nat.mod_eq_of_lt h]
 ·rw [h1,Nat.mod_self,show 0+n - 1=k by omega,Nat.mod_eq_of_lt h]
theorem xP {n k:Nat} (h:k < n) (hn:1 < n):aX n k≠k:=fun e=>by
 unfold aX at e;rcases Nat.lt_or_eq_of_le (show k+1≤n from h) with h1 | h1
 ·rw [Nat.mod_eq_of_lt h1] at e; omega
 ·rw [h1,Nat.mod_self] at e; omega
theorem Ps {n k:Nat} (h:k < n) (hn:1 < n):db n k≠k:=fun e=>by
 have h1:=CM h;rw [e] at h1;exact xP h hn h1
theorem j9 {l:List Q2} {k:Nat} (h:k < l.length):(aq l k,aq l (aX l.length k))∈aY l:=List.mem_of_getElem? (qf (ig h) (ig (cI h)))
theorem qj {l:List Q2} {k:Nat} (h:k < l.length):(aq l (db l.length k),aq l k)∈aY l:=by
 have:=j9 (l:=l) (jo h)
 rwa [CM h] at this
theorem ze {l:List Q2} {e:Q2 × Q2} (h:e∈aY l):∃ k,k < l.length∧e=(aq l k,aq l (aX l.length k)):=by
 obtain ⟨i,hi,rfl⟩:=List.getElem_of_mem h;have aQ:i < l.length:=by rwa [ll] at hi
 refine ⟨i,aQ,?_⟩;have:=qf (ig aQ) (ig (cI aQ));rw [List.getElem?_eq_getElem hi] at this;exact Option.some.inj this
def nd (l:List Q2) (k:Nat):Prop:=1 < l.length∧(aq l k=aq l (aX l.length k)∨2 < l.length∧ao (aq l (db l.length k)) (aq l k) (aq l (aX l.length k))=0)
instance (l:List Q2) (k:Nat):Decidable (nd l k):=inferInstanceAs (Decidable (_∧_))
def lE (l:List Q2):Option Nat:=(List.range l.length).find? fun k=>decide (nd l k)
def HG:Nat→List Q2→List Q2
 | 0,l=>l
 | n+1,l=>match lE l with | none=>l | some k=>HG n (l.eraseIdx k)
def ff (l:List Q2):List Q2:=HG l.length l
theorem S7 {l:List Q2} (h:∀ k,k < l.length→¬ nd l k):lE l=none:=by
 unfold lE;rw [List.find?_eq_none];intro k hk
 simpa using h k (List.mem_range.1 hk)
theorem SN {l:List Q2} (h:lE l=none):∀ k,k < l.length→¬ nd l k:=fun k hk=>by
 unfold lE at h;rw [List.find?_eq_none] at h
 simpa using h k (List.mem_range.2 hk)
theorem Bs {l:List Q2} {k:Nat} (h:lE l=some k):k < l.length∧nd l k:=by
 unfold lE at h;rw [List.find?_range_eq_some] at h;exact ⟨List.mem_range.1 h.2.1,by simpa using h.1⟩
theorem BK {l:List Q2} (h:lE l=none):ff l=l:=by
 unfold ff;cases l with
 | nil=>rfl
 | cons a l=>show (match lE (a::l) with | none=>_ | some k=>_)=_; rw [h]
theorem BL {l:List Q2} {k:Nat} (h:lE l=some k):ff l=ff (l.eraseIdx k):=by
 have hk:=(Bs h).1;unfold ff;rw [List.length_eraseIdx_of_lt hk];obtain ⟨n,hn⟩:∃ n,l.length=n+1:=⟨l.length - 1,by omega⟩
 rw [hn];show (match lE l with | none=>l | some k=>HG n (l.eraseIdx k))=_
 rw [h]; rfl
theorem Cc {C:List Q2→Prop} (hs:∀ l k,lE l=some k→C (l.eraseIdx k)→C l) (h0:∀ l,lE l=none→C l):∀ (n:Nat) (l:List Q2),l.length=n→C l:=by
 intro n
 induction n with
 | zero=>intro l hl; exact h0 l (S7 fun k hk=>by omega)
 | succ n ih =>
  intro l hl;cases e:lE l with
  | none=>exact h0 l e
  | some k=>exact hs l k e (ih _ (by rw [List.length_eraseIdx_of_lt (Bs e).1]; omega))
theorem F8 (l:List Q2):(ff l).Sublist l :=
 Cc (C:=fun l=>(ff l).Sublist l) (fun l k h hc=>by rw [BL h]; exact hc.trans (List.eraseIdx_sublist ..)) (fun l h=>by rw [BK h]; exact List.Sublist.refl _) _ l rfl
theorem NK (l:List Q2):∀ k,k < (ff l).length→¬ nd (ff l) k :=
 Cc (C:=fun l=>∀ k,k < (ff l).length→¬ nd (ff l) k) (fun l k h hc=>by rw [BL h]; exact hc) (fun l h=>by rw [BK h]; exact SN h) _ l rfl
theorem mem_erase {l:List Q2} {k j:Nat} (hj:j < l.length) (h:j≠k):aq l j∈l.eraseIdx k:=by
 rw [List.mem_eraseIdx_iff_getElem?];exact ⟨j,h,ig hj⟩
theorem Ux {l:List Q2} {k:Nat} {v:Q2} (h:v∈l):v∈l.eraseIdx k∨(k < l.length∧v=aq l k):=by
 obtain ⟨j,hj,rfl⟩:=o6 h;by_cases e:j=k
 ·subst e; exact .inr ⟨hj,rfl⟩
 ·exact .inl (mem_erase hj e)
theorem GD {f:Q3} {a b:Q2} {t:Rat} (ha:aj f a=0) (hb:aj f b=0):aj f (atR a b t)=0:=by rw [xh,ha,hb]; grind
theorem Uy {l:List Q2} {k:Nat} (hT:bz l) (hF:¬ Flat l) (hk:k < l.length) (h:nd l k):iu (l.eraseIdx k) l∧¬ Flat (l.eraseIdx k):=by
 obtain ⟨h1,J⟩:=h;have key:∀ (P:Q2→Prop),(∀ v∈l.eraseIdx k,P v)→(∀ a b t,P a→P b→0 < t→t < 1→P (atR a b t))→∀ v∈l,P v:=by
  intro P hP hm v hv;rcases Ux (k:=k) hv with h | ⟨_,rfl⟩
  ·exact hP v h
  ·by_cases e1:aq l k=aq l (aX l.length k)
   ·rw [e1]; exact hP _ (mem_erase (cI hk) (xP hk h1))
   ·by_cases e2:aq l (db l.length k)=aq l k
    ·rw [← e2]; exact hP _ (mem_erase (jo hk) (Ps hk h1))
    ·rcases J with J | ⟨J,h3⟩
     ·exact absurd J e1
     ·obtain ⟨t,t0,t1,ht⟩:=L8 hT hF (qj hk) (j9 hk) e2 e1 h3;rw [ht];exact hm _ _ _ (hP _ (mem_erase (jo hk) (Ps hk h1))) (hP _ (mem_erase (cI hk) (xP hk h1))) t0 t1
 refine ⟨fun p=>⟨fun hp=>hp.mono fun v hv=>(List.eraseIdx_sublist ..).subset hv,fun hp=>hp.trans ?_⟩,fun ⟨f,hf,hz⟩=>hF ⟨f,hf,?_⟩⟩
 ·exact key _ (fun v hv=>.lH hv) fun a b t ha hb t0 t1=>ha.at hb (by grind) (by grind)
 ·exact key _ hz fun a b t ha hb _ _=>GD ha hb
theorem FE {l:List Q2} (hT:bz l) (hF:¬ Flat l):iu (ff l) l∧¬ Flat (ff l) :=
 Cc (C:=fun l=>bz l→¬ Flat l→iu (ff l) l∧¬ Flat (ff l)) (fun l k h hc hT hF=>by
  rw [BL h];have J:=Bs h;obtain ⟨a,b⟩:=Uy hT hF J.1 J.2;obtain ⟨c,d⟩:=hc (hT.sublist (List.eraseIdx_sublist ..)) b;exact ⟨c.trans a,d⟩) (fun l h hT hF=>by rw [BK h]; exact ⟨.rfl',hF⟩) _ l rfl hT hF
theorem CN {P:List Q2} (h:Flat P) {a b c:Q2} (ha:a∈P) (hb:b∈P) (hc:c∈P):ao a b c=0:=by
 obtain ⟨f,hf,hz⟩:=h;have x:=hz a ha;have y:=hz b hb;have z:=hz c hc;rw [fM] at x y z;rw [dm];by_cases h0:f.1=0
 ·have h1:f.2.1≠0:=fun e=>hf ⟨h0,e⟩
  have e:f.2.1*((b.1 - a.1)*(c.2 - a.2) - (b.2 - a.2)*(c.1 - a.1))=0:=by grind
  exact (Rat.mul_eq_zero.1 e).resolve_left h1
 ·have e:f.1*((b.1 - a.1)*(c.2 - a.2) - (b.2 - a.2)*(c.1 - a.1))=0:=by grind
  exact (Rat.mul_eq_zero.1 e).resolve_left h0
theorem Ff (a b:Q2):∃ f:Q3,gP f∧aj f a=0∧aj f b=0:=by
 by_cases h:a=b
 ·subst h;exact ⟨(1,0,a.1),fun h=>absurd (show (1:Rat)=0 from h.1) (by decide),by rw [fM]; grind,by rw [fM]; grind⟩
 ·exact ⟨pW a b,Hc h,by rw [o5,qB],by rw [o5,nT]⟩
theorem Uz {P:List Q2} (h:P.length≤2):Flat P:=by
 match P,h with
 | [],_=>exact ⟨(1,0,0),fun h=>absurd h.1 (by decide),fun v hv=>by cases hv⟩
 | [a],_ =>
  obtain ⟨f,hf,h1,_⟩:=Ff a a;exact ⟨f,hf,fun v hv=>by simp at hv; rw [hv]; exact h1⟩
 | [a,b],_ =>
  obtain ⟨f,hf,h1,J⟩:=Ff a b;exact ⟨f,hf,fun v hv=>by simp at hv; rcases hv with rfl | rfl <;> assumption⟩
 | _::_::_::_,h=>simp at h
theorem UA {l:List Q2} (hF:Flat l):(ff l).length≤2:=by
 refine Decidable.byContradiction fun h=>?_
 have h0:=NK l 0 (by omega)
 refine h0 ⟨by omega,.inr ⟨by omega,?_⟩⟩
 have EH:Flat (ff l):=hF.mono fun v hv=>(F8 l).subset hv
 exact CN EH (eO (jo (by omega))) (eO (by omega)) (eO (cI (by omega)))
structure Ring (P:List Q2):Prop where
 eP:bz P
 three:3≤P.length
 ph:∀ k,k < P.length→0 < ao (aq P (db P.length k)) (aq P k) (aq P (aX P.length k))
theorem Ring.ne {P:List Q2} (h:Ring P):∀ e∈aY P,e.1≠e.2:=fun e he=>by
 obtain ⟨k,hk,rfl⟩:=ze he;intro e2;have:=h.ph k hk;simp only at e2;rw [e2,nT] at this;grind
theorem Ring.ext {P:List Q2} (h:Ring P) {v:Q2}:v∈P↔fK P v:=by
 refine ⟨fun hv=>?_,fK.mem⟩
 obtain ⟨k,hk,rfl⟩:=o6 hv;have:=h.ph k hk;exact L7 h.eP (qj hk) (j9 hk) (by grind)
theorem Ring.adA {P:List Q2} (h:Ring P):¬ Flat P:=fun hF=>by
 have hk:0 < P.length:=by have:=h.three; omega
 have:=h.ph 0 hk;rw [CN hF (eO (jo hk)) (eO hk) (eO (cI hk))] at this;grind
theorem Ring.nodup {P:List Q2} (h:Ring P):P.Nodup:=L9 h.eP h.adA h.ne
theorem Yi {P:List Q2} (hT:bz P) (hF:¬ Flat P) (hn:∀ k,k < P.length→¬ nd P k):Ring P:=by
 have h3:3≤P.length:=Decidable.byContradiction fun h=>hF (Uz (by omega))
 refine ⟨hT,h3,fun k hk=>?_⟩
 have a:=oW hT (qj hk) (eO (cI hk));have b:ao (aq P (db P.length k)) (aq P k) (aq P (aX P.length k))≠0:=fun e=>hn k hk ⟨by omega,.inr ⟨by omega,e⟩⟩
 grind
theorem Ma {l:List Q2} (hT:bz l) (hF:¬ Flat l):Ring (ff l):=Yi (hT.sublist (F8 l)) (FE hT hF).2 (NK l)
def nU (l:List Q2):Nat→Nat
 | 0=>0
 | i+1=>if fI (aq l i) (aq l (nU l i)) < 0 then i else nU l i
def qJ (l:List Q2):Nat:=nU l l.length
def eI (l:List Q2):List Q2:=l.drop (qJ l)++l.take (qJ l)
def iE (a b:Q2):Prop:=a.1 < b.1∨a.1=b.1∧a.2≤b.2
theorem uM {a b:Q2}:iE a b↔¬ fI b a < 0:=by
 unfold iE fI;rcases BU (b.1 - a.1) with ⟨h1,J⟩ | ⟨h1,J⟩ | ⟨h1,J⟩
 ·rw [GC b.1 a.1,J];constructor
  ·rintro (h | ⟨h,_⟩) <;> grind
  ·intro h; exact absurd (by rw [if_pos (by decide)]; decide) h
 ·rw [GC b.1 a.1,J,if_neg (by decide),GA]
  constructor
  ·rintro (h | ⟨h,h3⟩) <;> grind
  ·intro h; right; exact ⟨by grind,by grind⟩
 ·rw [GC b.1 a.1,J];constructor
  ·intro _; rw [if_pos (by decide)]; decide
  ·intro _; left; grind
theorem VK {a b c:Q2} (h:iE a b) (g:iE b c):iE a c:=by unfold iE at *; grind
theorem NL {a b:Q2} (h:iE a b) (g:iE b a):a=b:=by
 unfold iE at *;exact Prod.ext (by grind) (by grind)
theorem W6 (a:Q2):iE a a:=by unfold iE; right; exact ⟨rfl,by grind⟩
theorem VL {a b:Q2} (h:¬ iE a b):iE b a:=by unfold iE at *; grind
theorem K4 (l:List Q2):∀ i,i≤l.length→(0 < l.length→nU l i < l.length)∧(∀ j,j < i→iE (aq l (nU l i)) (aq l j)):=by
 intro i
 induction i with
 | zero=>intro _; exact ⟨fun h=>h,fun j hj=>absurd hj (Nat.not_lt_zero _)⟩
 | succ i ih =>
  intro hi;obtain ⟨h1,J⟩:=ih (by omega)
  unfold nU
  split
  ·rename_i hc;have hle:iE (aq l i) (aq l (nU l i)):=VL fun h=>(uM.1 h) hc
   refine ⟨fun _=>by omega,fun j hj=>?_⟩
   rcases Nat.lt_or_eq_of_le (Nat.le_of_lt_succ hj) with h | h
   ·exact VK hle (J j h)
   ·subst h; exact W6 _
  ·rename_i hc;refine ⟨h1,fun j hj=>?_⟩
   rcases Nat.lt_or_eq_of_le (Nat.le_of_lt_succ hj) with h | h
   ·exact J j h
   ·subst h; exact uM.2 hc
theorem uD {l:List Q2} {v:Q2}:v∈eI l↔v∈l:=by
 unfold eI;rw [List.mem_append];constructor
 ·rintro (h | h)
  ·exact List.mem_of_mem_drop h
  ·exact List.mem_of_mem_take h
 ·intro h;rw [← List.take_append_drop (qJ l) l,List.mem_append] at h;exact h.symm
theorem BM (l:List Q2):(eI l).length=l.length:=by
 unfold eI;rw [List.length_append,List.length_drop,List.length_take]; omega
theorem F9 {l:List Q2} (h:bz l):bz (eI l):=bz.tR (by rw [List.take_append_drop]; exact h)
theorem FF {l:List Q2} (h:l.Nodup):(eI l).Nodup:=by
 have hp:(eI l).Perm l:=by
  unfold eI;refine List.perm_append_comm.trans ?_;rw [List.take_append_drop]
 exact hp.nodup_iff.2 h
theorem Ga {l:List Q2} (h:l≠[]):∃ a A,eI l=a::A∧∀ v∈l,iE a v:=by
 have hl:0 < l.length:=List.length_pos_iff.2 h;have hs:=K4 l l.length (Nat.le_refl _);refine ⟨aq l (qJ l),l.drop (qJ l+1)++l.take (qJ l),?_,fun v hv=>?_⟩
 ·unfold eI;have al:qJ l < l.length:=hs.1 hl;rw [List.drop_eq_getElem_cons al];have:l[qJ l]'al=aq l (qJ l):=by
   have:=ig al;rw [List.getElem?_eq_getElem al] at this;exact Option.some.inj this
  rw [List.cons_append,this]
 ·obtain ⟨j,hj,rfl⟩:=o6 hv;exact hs.2 j hj
theorem S8 {P A B:List Q2} (hA:bz A) (hB:bz B) (nA:A.Nodup) (nB:B.Nodup) (eA:∀ v,v∈A↔fK P v) (eB:∀ v,v∈B↔fK P v):eI A=eI B:=by
 by_cases yC:A=[]
 ·subst yC;have:B=[]:=by
   cases B with
   | nil=>rfl
   | cons b B=>have:=(eA b).2 ((eB b).1 (List.mem_cons_self ..)); cases this
  rw [this]
 ·have hB0:B≠[]:=fun e=>by
   subst e;cases A with
   | nil=>exact yC rfl
   | cons b B=>have:=(eB b).2 ((eA b).1 (List.mem_cons_self ..)); cases this
  obtain ⟨a,A',ha,la⟩:=Ga yC;obtain ⟨b,B',hb,lb⟩:=Ga hB0;have ha':a∈A:=uD.1 (by rw [ha]; exact List.mem_cons_self ..)
  have bE:b∈B:=uD.1 (by rw [hb]; exact List.mem_cons_self ..)
  have c9:a=b:=NL (la b ((eA b).2 ((eB b).1 bE))) (lb a ((eB a).2 ((eA a).1 ha')));subst c9;rw [ha,hb]
  congr 1
  refine Ln (P:=P) (h:=a) (by rw [← ha]; exact F9 hA) (by rw [← hb]; exact F9 hB) (by rw [← ha]; exact FF nA) (by rw [← hb]; exact FF nB) (fun v=>?_) (fun v=>?_)
  ·rw [← ha,uD]; exact eA v
  ·rw [← hb,uD]; exact eB v
theorem fK.iff {P Q:List Q2} (h:iu P Q) (v:Q2):fK P v↔fK Q v:=⟨fun x=>x.same h,fun x=>x.same h.symm⟩
open Go
theorem oY {a b:Q2}:fI a b=0↔a=b:=VG.trans ⟨fun h=>Prod.ext h.1 h.2,fun h=>by rw [h]; exact ⟨rfl,rfl⟩⟩
def nk (e:Q2 × Q2):List Q2:=if fI e.1 e.2≠0 then [e.1] else []
def gE (l:List Q2):List Q2:=(aY l).flatMap nk
def n5 (l:List Q2) (i:Nat):List Q2:=if ao (aq l (db l.length i)) (aq l i) (aq l (aX l.length i))≠0 then [aq l i] else []
def jI (l:List Q2):List Q2:=(List.range l.length).flatMap (n5 l)
def fg (l:List Q2):List Q2:=if (jI (gE l)).length < 3 then [] else eI (jI (gE l))
theorem Fm {α β:Type} (g:α→β) (f:α→List β) (h:∀ a,(f a).Sublist [g a]):∀ l:List α,(l.flatMap f).Sublist (l.map g)
 | []=>.slnil
 | a::l=>by
  rw [List.flatMap_cons,List.map_cons];exact (h a).append (Fm g f h l)
theorem VM {α:Type} (l:List α):(aY l).map Prod.fst=l:=by
 refine List.ext_getElem (by rw [List.length_map,ll]) fun i h1 J=>?_
 have h3:(i+1) % l.length < l.length:=Nat.mod_lt _ (by omega)
 have:=qf (List.getElem?_eq_getElem J) (List.getElem?_eq_getElem h3);rw [List.getElem_map];rw [List.length_map] at h1;rw [List.getElem?_eq_getElem h1] at this;rw [Option.some.inj this]
theorem yK (l:List Q2):(gE l).Sublist l:=by
 have:=Fm Prod.fst nk (fun e=>by
  unfold nk
  split
  ·exact List.Sublist.refl _
  ·exact List.nil_sublist _) (aY l)
 rw [VM] at this;exact this
theorem Yj (l:List Q2):(List.range l.length).map (aq l)=l:=by
 refine List.ext_getElem (by simp) fun i h1 J=>?_
 simp;exact m6 (List.getElem?_eq_getElem J)
theorem BN (l:List Q2):(jI l).Sublist l:=by
 have:=Fm (aq l) (n5 l) (fun e=>by
  unfold n5
  split
  ·exact List.Sublist.refl _
  ·exact List.nil_sublist _) (List.range l.length)
 rw [Yj] at this;exact this
theorem Yk (z:Q2):∀ (L:List Q2) (a:Q2),(a::L).getLast?=some z→((bA (a::L)).flatMap nk++[z]).head?=some a∧∀ e∈bA ((bA (a::L)).flatMap nk++[z]),e.1≠e.2:=by
 intro L
 induction L with
 | nil =>
  intro a h;simp at h;subst h;exact ⟨rfl,fun e he=>by cases he⟩
 | cons b L ih =>
  intro a h;obtain ⟨h1,J⟩:=ih b (by rw [List.getLast?_cons_cons] at h; exact h)
  rw [iS,List.flatMap_cons,List.append_assoc];obtain ⟨X,hX⟩:∃ X,X=(bA (b::L)).flatMap nk++[z]:=⟨_,rfl⟩;rw [← hX] at h1 J ⊢;unfold nk;by_cases c9:a=b
  ·rw [if_neg (by simp only [ne_eq]; exact fun h=>h (oY.2 c9))]
   rw [c9]; exact ⟨h1,J⟩
  ·rw [if_pos (fun h=>c9 (oY.1 h))]
   refine ⟨rfl,?_⟩;cases X with
   | nil=>simp at h1
   | cons c X =>
    simp at h1;subst h1;intro e he;rw [show [(a,c).1]++c::X=a::c::X from rfl,iS] at he
    rcases List.mem_cons.1 he with rfl | he
    ·exact c9
    ·exact J e he
theorem Lo (l:List Q2):∀ e∈aY (gE l),e.1≠e.2:=by
 cases l with
 | nil=>intro e he; cases he
 | cons h B =>
  obtain ⟨h1,J⟩:=Yk h (B++[h]) h (by rw [← List.cons_append,List.getLast?_append]; rfl)
  have hd:gE (h::B)=(bA (h::(B++[h]))).flatMap nk:=rfl;rw [← hd] at h1 J;cases hD:gE (h::B) with
  | nil=>intro e he; cases he
  | cons d D =>
   rw [hD] at h1 J;simp at h1;subst h1;intro e he;exact J e he
theorem Lp {α:Type} {l m:List α} {e:α × α} (h:e∈bA l):e∈bA (l++m):=by
 obtain ⟨A,B,rfl⟩:=K3 h;rw [List.append_assoc,List.cons_append,oT];exact List.mem_append_right _ (List.mem_cons_self ..)
theorem leave {v:Q2}:∀ (l:List Q2),(∃ w∈l,w≠v)→∃ y,(v,y)∈bA (v::l)∧v≠y:=by
 intro l
 induction l with
 | nil=>rintro ⟨w,hw,_⟩; cases hw
 | cons b l ih =>
  rintro ⟨w,hw,aD⟩
  by_cases hb:b=v
  ·subst hb;rcases List.mem_cons.1 hw with rfl | hw
   ·exact absurd rfl aD
   ·obtain ⟨y,h1,J⟩:=ih ⟨w,hw,aD⟩;exact ⟨y,List.mem_cons_of_mem _ h1,J⟩
  ·exact ⟨b,List.mem_cons_self ..,Ne.symm hb⟩
theorem K5 {l:List Q2} (hF:¬ Flat l) {v:Q2}:v∈gE l↔v∈l:=by
 refine ⟨fun h=>(yK l).subset h,fun h=>?_⟩
 obtain ⟨w,hw,aD⟩:∃ w∈l,w≠v:=by
  refine Decidable.byContradiction fun hn=>hF ?_
  obtain ⟨f,hf,h1,_⟩:=Ff v v;exact ⟨f,hf,fun x hx=>by
   have:x=v:=Decidable.byContradiction fun h=>hn ⟨x,hx,h⟩
   rw [this]; exact h1⟩
 obtain ⟨A,B,rfl⟩:=List.append_of_mem h;obtain ⟨y,h1,J⟩:=leave (v:=v) (B++A) ⟨w,by
  rcases List.mem_append.1 hw with h | h
  ·exact List.mem_append_right _ h
  ·rcases List.mem_cons.1 h with h | h
   ·exact absurd h aD
   ·exact List.mem_append_left _ h,aD⟩
 have he:(v,y)∈aY (A++v::B):=yY (A:=v::B) (Lp (m:=[v]) h1);unfold gE;refine List.mem_flatMap.2 ⟨_,he,?_⟩;unfold nk;rw [if_pos (fun h=>J (oY.1 h))]
 exact List.mem_cons_self ..
theorem UB {D:List Q2} (hT:bz D) (hF:¬ Flat D) (aD:∀ e∈aY D,e.1≠e.2) (v:Q2):v∈jI D↔fK D v:=by
 constructor
 ·intro h;unfold jI at h;obtain ⟨i,hi,hv⟩:=List.mem_flatMap.1 h;have hi:=List.mem_range.1 hi;unfold n5 at hv
  split at hv
  ·rename_i hc;simp at hv;rw [hv];exact L7 hT (qj hi) (j9 hi) hc
  ·cases hv
 ·intro h;obtain ⟨i,hi,rfl⟩:=o6 h.mem;unfold jI;refine List.mem_flatMap.2 ⟨i,List.mem_range.2 hi,?_⟩;unfold n5;by_cases hc:ao (aq D (db D.length i)) (aq D i) (aq D (aX D.length i))=0
  ·have n1:=aD _ (qj hi);have n2:=aD _ (j9 hi);obtain ⟨t,t0,t1,ht⟩:=L8 hT hF (qj hi) (j9 hi) n1 n2 hc;exact absurd ht (h.BJ (.lH (eO (jo hi))) (.lH (eO (cI hi))) n1 (Ne.symm n2) t0 t1)
  ·rw [if_pos hc]; exact List.mem_cons_self ..
theorem OD {P:List Q2} (hT:bz P) (hF:¬ Flat P):fg P=eI (ff P)∧3≤(ff P).length:=by
 have hr:=Ma hT hF;have J3:bz (gE P):=hT.sublist (yK P);have EJ:¬ Flat (gE P):=fun h=>hF (h.mono fun v hv=>(K5 hF).2 hv)
 have hs:iu (gE P) P:=.lH fun v=>K5 hF
 have mP:=L9 J3 EJ (Lo P);have eC:∀ v,v∈jI (gE P)↔fK P v:=fun v=>(UB J3 EJ (Lo P) v).trans (fK.iff hs v)
 have eR:∀ v,v∈ff P↔fK P v:=fun v=>hr.ext.trans (fK.iff (FE hT hF).1 v)
 have he:=S8 (J3.sublist (BN _)) hr.eP (mP.sublist (BN _)) hr.nodup eC eR;refine ⟨?_,hr.three⟩;unfold fg;have hl:=congrArg List.length he;rw [BM,BM] at hl;rw [if_neg (by have:=hr.three; omega),he]
theorem MV {P:List Q2} (hF:Flat P):fg P=[]∧(ff P).length < 3:=by
 refine ⟨?_,by have:=UA hF; omega⟩
 have EJ:Flat (gE P):=hF.mono fun v hv=>(yK P).subset hv
 have:jI (gE P)=[]:=by
  unfold jI;rw [List.flatMap_eq_nil_iff];intro i hi;have hi:=List.mem_range.1 hi;unfold n5;rw [if_neg (by simp only [ne_eq]; exact fun h=>h (CN EJ (eO (jo hi)) (eO hi) (eO (cI hi))))]
 unfold fg;rw [this,if_pos (by decide)]
abbrev Q4:=Q2 × Q2
def afe (b:Q4):List Q2:=[b.1,(b.2.1,b.1.2),b.2,(b.1.1,b.2.2)]
def okB (b:Q4):Prop:=b.1.1≤b.2.1∧b.1.2≤b.2.2
def QT (b:Q4) (p:Q2):Prop:=b.1.1≤p.1∧p.1≤b.2.1∧b.1.2≤p.2∧p.2≤b.2.2
def Ij (b:Q4) (l:List Q3):List Q2:=l.foldl (fun P m=>cB m P) (afe b)
open Go
def mR (S:Q3→Prop) (e:Q2 × Q2):Prop:=∃ m,S m∧gP m∧aj m e.1=0∧aj m e.2=0
theorem aa8 {l m:Q3} {x:Q2} (hx:aj l x=0) (hy:aj m x=0) (h:rh l m≠0):x=IY l m:=by
 unfold rh at h;have e:rh l m=bT (rL l) (rL m):=rfl;rw [show bT (rL l) (rL m)=l.1*m.2.1 - l.2.1*m.1 from rfl] at h e
 rw [fM] at hx hy;unfold IY;rw [e];refine Prod.ext ?_ ?_
 ·show x.1=_
  rw [Rat.div_def]; grind
 ·show x.2=_
  rw [Rat.div_def]; grind
theorem aa9 {l m:Q3} {a b:Q2} (hl:gP l) (ha:aj l a=0) (hb:aj l b=0) (h:aj m a≠aj m b):rh l m≠0:=fun e=>by
 rw [show rh l m=l.1*m.2.1 - l.2.1*m.1 from rfl] at e
 rw [fM] at ha hb;rw [fM,fM] at h;by_cases h0:l.1=0
 ·have h1:l.2.1≠0:=fun e=>hl ⟨h0,e⟩
  have:l.2.1*(m.1*a.1+m.2.1*a.2 - m.2.2 - (m.1*b.1+m.2.1*b.2 - m.2.2))=0:=by grind
  have:=(Rat.mul_eq_zero.1 this).resolve_left h1;exact h (by grind)
 ·have:l.1*(m.1*a.1+m.2.1*a.2 - m.2.2 - (m.1*b.1+m.2.1*b.2 - m.2.2))=0:=by grind
  have:=(Rat.mul_eq_zero.1 this).resolve_left h0;exact h (by grind)
def jX (m:Q3) (e:Q2 × Q2):List Q2:=im m e.1++fG m e.1 e.2
theorem Hd (m:Q3) (l:List Q2):cB m l=(aY l).flatMap (jX m):=rfl
theorem qk {m:Q3} {a:Q2} (h:0≤aj m a):im m a=[a]:=by unfold im; rw [if_pos (lC.2 h)]
theorem sC {m:Q3} {a:Q2} (h:aj m a < 0):im m a=[]:=by unfold im; rw [if_neg (fun J=>by have:=lC.1 J; grind)]
theorem uE {m:Q3} {a b:Q2} (h:¬ ((0 < aj m a∧aj m b < 0)∨(aj m a < 0∧0 < aj m b))):fG m a b=[]:=by unfold fG; rw [if_neg (fun J=>h (Ca.1 J))]
theorem yL {S:Q2 × Q2→Prop} {a:Q2} {X:List Q2} (h:∀ x,X.head?=some x→S (a,x)) (hX:∀ e∈bA X,S e):∀ e∈bA (a::X),S e:=by
 cases X with
 | nil=>intro e he; cases he
 | cons x X =>
  intro e he;rw [iS] at he;rcases List.mem_cons.1 he with rfl | he
  ·exact h x rfl
  ·exact hX e he
theorem W7 {S:Q3→Prop} {m:Q3} (hS:S m) (hm:gP m) (z:Q2):∀ (L:List Q2) (a:Q2),(a::L).getLast?=some z→(∀ e∈bA (a::L),mR S e) →
  ∃ X,(bA (a::L)).flatMap (jX m)++im m z=X∧(∀ e∈bA X,mR S e)∧(0≤aj m a→X.head?=some a)∧(aj m a < 0→∀ x,X.head?=some x→aj m x=0)∧(aj m z < 0→∀ x,X.getLast?=some x→aj m x=0):=by
 intro L
 induction L with
 | nil =>
  intro a hz EK;simp at hz;subst hz;by_cases ha:0≤aj m a
  ·refine ⟨[a],by rw [qk ha]; rfl,(fun e he=>by cases he),fun _=>rfl,fun h=>absurd ha (by grind),fun h=>absurd ha (by grind)⟩
  ·exact ⟨[],by rw [sC (by grind)]; rfl,(fun e he=>by cases he),fun h=>absurd h ha,(fun h x hx=>by cases hx),(fun h x hx=>by cases hx)⟩
 | cons b L ih =>
  intro a hz EK;rw [iS] at EK;obtain ⟨X,hX,h1,J,h3,h4⟩:=ih b (by rw [List.getLast?_cons_cons] at hz; exact hz) fun e he=>EK e (List.mem_cons_of_mem _ he)
  obtain ⟨k,hk,J4,ka,kb⟩:=EK (a,b) (List.mem_cons_self ..);rw [iS,List.flatMap_cons,List.append_assoc,hX];show ∃ Y,(im m a++fG m a b)++X=Y∧_
  have last:∀ Z:List Q2,X≠[]→∀ x,(Z++X).getLast?=some x→X.getLast?=some x:=fun Z aD x hx=>by
   rw [List.getLast?_append] at hx;cases e:X.getLast? with
   | none=>exact absurd (List.getLast?_eq_none_iff.1 e) aD
   | some y=>rw [e] at hx; exact hx
  by_cases ha:0≤aj m a
  ·rw [qk ha];by_cases hb:0≤aj m b
   ·rw [uE (by grind),List.append_nil]
    have hh:=J hb;refine ⟨a::X,rfl,yL (fun x hx=>?_) h1,fun _=>rfl,fun h=>absurd ha (by grind),fun h x hx=>h4 h x (last [a] (fun e=>by rw [e] at hh; cases hh) x hx)⟩
    rw [hh] at hx; cases hx;exact ⟨k,hk,J4,ka,kb⟩
   ·by_cases h0:aj m a=0
    ·rw [uE (by grind),List.append_nil]
     refine ⟨a::X,rfl,yL (fun x hx=>⟨m,hS,hm,h0,h3 (by grind) x hx⟩) h1,fun _=>rfl,fun h=>absurd ha (by grind),fun h x hx=>?_⟩
     by_cases A5:X=[]
     ·subst A5; simp at hx; rw [← hx]; exact h0
     ·exact h4 h x (last [a] A5 x hx)
    ·have hc:=yZ (m:=m) (p:=a) (q:=b) (.inl ⟨by grind,by grind⟩)
     have hs:=rX (x:=atR a b (gI m a b)) (by rw [hc]; simp)
     rw [hc];refine ⟨a::atR a b (gI m a b)::X,rfl,yL (fun x hx=>?_) (yL (fun x hx=>⟨m,hS,hm,hs.2.2.2.2,h3 (by grind) x hx⟩) h1),fun _=>rfl,fun h=>absurd ha (by grind),fun h x hx=>?_⟩
     ·simp at hx;rw [← hx];exact ⟨k,hk,J4,ka,GD ka kb⟩
     ·by_cases A5:X=[]
      ·subst A5; simp at hx; rw [← hx]; exact hs.2.2.2.2
      ·exact h4 h x (last [a,atR a b (gI m a b)] A5 x hx)
  ·rw [sC (by grind),List.nil_append]
   by_cases hb:0 < aj m b
   ·have hc:=yZ (m:=m) (p:=a) (q:=b) (.inr ⟨by grind,by grind⟩)
    have hs:=rX (x:=atR a b (gI m a b)) (by rw [hc]; simp)
    have hh:=J (by grind)
    rw [hc];refine ⟨atR a b (gI m a b)::X,rfl,yL (fun x hx=>?_) h1,fun h=>absurd h ha,fun _ x hx=>?_,fun h x hx=>h4 h x (last [atR a b (gI m a b)] (fun e=>by rw [e] at hh; cases hh) x hx)⟩
    ·rw [hh] at hx; cases hx;exact ⟨k,hk,J4,GD ka kb,kb⟩
    ·simp at hx; rw [← hx]; exact hs.2.2.2.2
   ·rw [uE (by grind),List.nil_append]
    refine ⟨X,rfl,h1,fun h=>absurd h ha,fun _ x hx=>?_,h4⟩
    by_cases je:aj m b=0
    ·have:=J (by grind)
     rw [this] at hx; cases hx; exact je
    ·exact h3 (by grind) x hx
theorem aba {S:Q3→Prop} {m:Q3} {P:List Q2} (hS:S m) (hm:gP m) (h:∀ e∈aY P,mR S e):∀ e∈aY (cB m P),mR S e:=by
 cases P with
 | nil=>intro e he; cases he
 | cons p P =>
  obtain ⟨X,hX,h1,J,h3,h4⟩:=W7 hS hm p (P++[p]) p (by rw [← List.cons_append,List.getLast?_append]; rfl) h
  have hc:cB m (p::P)=(bA (p::(P++[p]))).flatMap (jX m):=rfl;rw [← hc] at hX;by_cases hp:0≤aj m p
  ·rw [qk hp] at hX;have hh:=J hp;intro e he;cases hC:cB m (p::P) with
   | nil=>rw [hC] at he; cases he
   | cons c C =>
    rw [hC] at hX he;have:c=p:=by rw [← hX] at hh; simpa using hh
    rw [this] at hX he;rw [nP,hX] at he;exact h1 e he
  ·rw [sC (by grind),List.append_nil] at hX
   intro e he;cases hC:cB m (p::P) with
   | nil=>rw [hC] at he; cases he
   | cons c C =>
    rw [hC] at he hX;subst hX;rcases List.eq_nil_or_concat C with rfl | ⟨C,d,rfl⟩
    ·have ov:=h3 (by grind) c rfl
     rw [nP] at he;rcases List.mem_cons.1 he with rfl | he
     ·exact ⟨m,hS,hm,ov,ov⟩
     ·cases he
    ·have ov:=h3 (by grind) c rfl
     have fE:=h4 (by grind) d (by rw [List.concat_eq_append,← List.cons_append,List.getLast?_append]; rfl)
     rw [List.concat_eq_append] at he h1;rw [nP,show c::(C++[d])++[c]=(c::C)++d::[c] by simp,oT] at he
     rcases List.mem_append.1 he with he | he
     ·exact h1 e (by rw [← List.cons_append]; exact he)
     ·rcases List.mem_cons.1 he with rfl | he
      ·exact ⟨m,hS,hm,fE,ov⟩
      ·cases he
theorem RT {k:Nat} (h:1≤k):QB 0 k:=(zI (n:=0) (by decide)).mono h
theorem qb1 {k:Nat} (h:1≤k):QB 1 k:=(zI (n:=1) (by decide)).mono h
open Go
def aC (L:List Q2):List PV:=L.map cc
def bG (L:List Q2):Nat→List Value:=cW (aC L)
theorem r4 (L:List Q2):(aC L).length=L.length:=List.length_map ..
theorem abb {L:List Q2} {k:Nat} (h:k < L.length):(aC L)[k]?=some (cc (aq L k)):=by
 unfold aC;rw [List.getElem?_map,ig h]; rfl
theorem W8 {L:List Q2} {k:Nat} (h:k < L.length):bG L k=(cc (aq L k)).cells:=by
 unfold bG cW;rw [List.getD_eq_getElem?_getD,abb h]; rfl
theorem ik {L:List Q2} {m k:Nat} (h:k < L.length) (hs:∀ v∈L,Q2.sz m v):∃ u:PV,u=cc (aq L k)∧bG L k=u.cells∧u.p=aq L k∧u.sz m∧Q2.sz m u.p :=
 ⟨_,rfl,W8 h,gJ _,uV (hs _ (eO h)) (Nat.le_refl _),by rw [gJ]; exact hs _ (eO h)⟩
theorem Yl {a b:Q2} (h:cc a=cc b):a=b:=by rw [← gJ a,← gJ b,h]
theorem Ym {u v:PV} {a b:Q2} (hu:u=cc a) (hv:v=cc b):u=v↔a=b:=by
 subst hu; subst hv;exact ⟨Yl,fun h=>by rw [h]⟩
theorem kR {k n:Nat} (hk:k < n) (hn:n≤1099511627776):Int.tmod (IntKind.i64.wrap ((k:Int)+1)) (n:Int)=(aX n k:Int):=by
 rw [ax (by omega) (by omega)]
 show Int.tmod ((k+1:Nat):Int) (n:Int)=(((k+1) % n:Nat):Int)
 rfl
theorem DE {k n:Nat} (hk:k < n) (hn:n≤1099511627776):Int.tmod (IntKind.i64.wrap (IntKind.i64.wrap ((k:Int)+(n:Int)) - 1)) (n:Int)=(db n k:Int):=by
 rw [ax (x:=(k:Int)+n) (by omega) (by omega),ax (by omega) (by omega)]
 have:(k:Int)+n - 1=((k+n - 1:Nat):Int):=by omega
 rw [this]
 rfl
theorem Fo {X Y:List Q2} {r s:Nat} (h:X[r]?=Y[s]?):bG X r=bG Y s:=by
 unfold bG cW aC;rw [List.getD_eq_getElem?_getD,List.getD_eq_getElem?_getD,List.getElem?_map,List.getElem?_map,h]
theorem W9 {L:List Q2} {m a:Nat} {z:Nat→List Value} (ha:a=L.length - m) (hm:m≤L.length):∀ r,r < L.length →
  iH (fun j=>iH z 0 (fun j=>bG L (fe (0+m) j)) (fe 0 j)) (0+a) (fun j=>bG L (fe 0 j)) r=bG (L.drop m++L.take m) r:=fun r hr=>by
 by_cases h:r < a
 ·rw [ji (by omega),gw (Nat.zero_le _)]
  refine Fo ?_;rw [List.getElem?_append_left (by rw [List.length_drop]; omega),List.getElem?_drop]
  simp [aw]
 ·rw [gw (by omega)]
  refine Fo ?_;rw [List.getElem?_append_right (by rw [List.length_drop]; omega),List.length_drop,List.getElem?_take_of_lt (by omega)]
  simp [aw,ha]
theorem VN {G:Nat→List Value} {L:List Q2} {m a:Nat} {z:Nat→List Value} (hG:∀ r,r < L.length→G r=bG L r) (ha:a=L.length - m) (hm:m≤L.length):∀ r,r < L.length →
  iH (fun j=>iH z 0 (fun j=>G (fe (0+m) j)) (fe 0 j)) (0+a) (fun j=>G (fe 0 j)) r=bG (L.drop m++L.take m) r:=fun r hr=>by
 rw [← W9 (z:=z) ha hm r hr];by_cases h:r < a
 ·rw [ji (show r < 0+a by omega),ji (show r < 0+a by omega),gw (Nat.zero_le _),gw (Nat.zero_le _)]
  have e:fe (0+m) (fe 0 r - 0)=m+r:=by rw [aw,aw]; omega
  rw [e];exact hG _ (by omega)
 ·rw [gw (show 0+a≤r by omega),gw (show 0+a≤r by omega)]
  have e:fe 0 (r - (0+a))=r - a:=by rw [aw]; omega
  rw [e];exact hG _ (by omega)
def XV.p (b:XV):Q4:=(b.1.p,b.2.p)
abbrev LL:=Option (List R3 × Nat)
def abc (l:List R3):Nat→List Value:=fun r=>(l.getD r Aa).cells
def LL.val:LL→Value
 | none=>.slice none 0 0
 | some i=>.slice (some ⟨0,0,none⟩) i.1.length i.2
def LL.ah:LL→List ai
 | none=>[]
 | some i=>[.flat false i.1.length 9 (abc i.1)]
def LL.list:LL→List R3
 | none=>[]
 | some i=>i.1
def qs (l:List R3):List Q3:=l.map R3.q
instance (b:Q4):Decidable (okB b):=inferInstanceAs (Decidable (_∧_))
def aff (l:List Q3):Bool:=l.any fun m=>decide (¬ gP m)
theorem sD {O:List Q2} {q:Nat} {F f:Nat→List Value} {p:PV} {x:Q2} (hq:q=O.length) (hF:∀ r,r < q→F r=bG O r) (hp:p=cc x) (hf:f 0=p.cells):∀ r,r < q+1→iH F q f r=bG (O++[x]) r:=fun r hr=>by
 by_cases h:r < q
 ·rw [ji h,hF r h];exact Fo (by rw [List.getElem?_append_left (by omega)])
 ·rw [gw (by omega),show r - q=0 by omega,hf,hp]
  have:r=O.length:=by omega
  subst this;unfold bG cW aC;rw [List.getD_eq_getElem?_getD,List.getElem?_map];simp
theorem xi {f:Nat→List Value} {p:PV} {x:Q2} (hp:p=cc x) (hf:f 0=p.cells):∀ r,r < 1→f r=bG [x] r:=fun r hr=>by
 have:r=0:=by omega
 subst this;rw [hf,hp]; rfl
theorem MW {α β:Type} {l:List α} {f:α→List β} {j:Nat} {e:α} (h:l[j]?=some e):(l.take (j+1)).flatMap f=(l.take j).flatMap f++f e:=by
 rw [List.take_add_one,h];simp
theorem Xa (m:Q3) (e:Q2 × Q2):(jX m e).length≤2:=by
 unfold jX im fG;rw [List.length_append]
 split <;> split <;> simp
theorem Gb (m:Q3):∀ l:List (Q2 × Q2),(l.flatMap (jX m)).length≤2*l.length
 | []=>by simp
 | e::l=>by
  have:=Gb m l;have:=Xa m e;rw [List.flatMap_cons,List.length_append,List.length_cons];omega
theorem Xb (m:Q3) (l:List Q2):(cB m l).length≤2*l.length:=by
 rw [Hd];have:=Gb m (aY l);rw [ll] at this;exact this
open Go
def nY {α:Type} (f:α→Bool) (l:List α) (i:Nat):Prop:=(l.take i).any f=false
theorem Fg {α:Type} (f:α→Bool) (l:List α):nY f l 0:=rfl
theorem uh {α:Type} {f:α→Bool} {l:List α} {i:Nat} {x:α} (h:nY f l i) (hx:l[i]?=some x) (hf:f x=false):nY f l (i+1):=by
 unfold nY at *;rw [List.take_add_one,hx,List.any_append,h];simp [hf]
theorem FG {α:Type} {f:α→Bool} {l:List α} (h:nY f l l.length):l.any f=false:=by
 unfold nY at h;rw [List.take_length] at h;exact h
open Go
theorem UC {p q:Q2}:fI q p=0↔fI p q=0:=by rw [oY,oY]; exact eq_comm
open Go
structure afF (b:Q4) (l:List Q3):Prop where
 okb:okB b
 afP:aff l=false
 few:l.length≤60
 eP:bz (Ij b l)
 flat:¬ Flat (Ij b l)
 ring:Ring (ff (Ij b l))
theorem NM {P:List Q2} (h:Ring P):bz (eI P)∧(eI P).Nodup∧3≤(eI P).length:=⟨F9 h.eP,FF h.nodup,by rw [BM]; exact h.three⟩
theorem xA {l:List Q2} (h:l.Nodup) {i j:Nat} (hi:i < l.length) (hj:j < l.length) (e:aq l i=aq l j):i=j:=by
 have h1:=ig hi;have J:=ig hj;rw [e] at h1;exact (List.getElem?_inj hi h).1 (h1.trans J.symm)
def QU (L:List Q2) (p:Q2):Prop:=∀ k,k < L.length→0≤ao (aq L k) (aq L (aX L.length k)) p
theorem Xc (f:Q3):∀ L:List Q2,L≠[]→∃ v∈L,∀ u∈L,aj f v≤aj f u:=by
 intro L
 induction L with
 | nil=>intro h; exact absurd rfl h
 | cons a L ih =>
  intro _;cases L with
  | nil=>exact ⟨a,List.mem_cons_self ..,fun u hu=>by rw [List.mem_singleton.1 hu]; exact Rat.le_refl⟩
  | cons c L =>
   obtain ⟨v,hv,h⟩:=ih (by simp)
   by_cases hle:aj f a≤aj f v
   ·refine ⟨a,List.mem_cons_self ..,fun u hu=>?_⟩
    rcases List.mem_cons.1 hu with rfl | hu
    ·exact Rat.le_refl
    ·exact Rat.le_trans hle (h u hu)
   ·refine ⟨v,List.mem_cons_of_mem _ hv,fun u hu=>?_⟩
    rcases List.mem_cons.1 hu with rfl | hu
    ·grind
    ·exact h u hu
theorem afg (f:Q3) (u v w p:Q2):ao u v w*(aj f p - aj f v)=ao u v p*(aj f w - aj f v)+ao v w p*(aj f u - aj f v):=by
 simp only [dm,fM]; grind
theorem Tz {L:List Q2} {p:Q2} (h:Ring L) (hp:QU L p):cX L p:=fun f hf=>by
 obtain ⟨v,hv,Aj⟩:=Xc f L (fun e=>by have:=h.three; rw [e] at this; exact absurd this (by decide))
 obtain ⟨k,hk,rfl⟩:=o6 hv;have hc:=h.ph k hk;have h1:=hp (db L.length k) (jo hk);rw [CM hk] at h1;have J:=hp k hk;have e:=afg f (aq L (db L.length k)) (aq L k) (aq L (aX L.length k)) p;have h3:=Aj _ (eO (cI hk));have h4:=Aj _ (eO (jo hk));have h5:=Rat.mul_nonneg h1 (show 0≤aj f (aq L (aX L.length k)) - aj f (aq L k) by grind)
 have h6:=Rat.mul_nonneg J (show 0≤aj f (aq L (db L.length k)) - aj f (aq L k) by grind)
 have h7:0≤aj f p - aj f (aq L k):=by
  rcases Rat.le_total (a:=0) (b:=aj f p - aj f (aq L k)) with h | h
  ·exact h
  ·have h8:=Rat.mul_nonneg (Rat.le_of_lt hc) (show 0≤-(aj f p - aj f (aq L k)) by grind)
   have h9:ao (aq L (db L.length k)) (aq L k) (aq L (aX L.length k))*(aj f p - aj f (aq L k))=0:=by grind
   rcases Rat.mul_eq_zero.1 h9 with h | h <;> grind
 have:=hf _ hv;grind
theorem TA {P:List Q2} (h:Ring P) {u v w:Q2} (h1:(u,v)∈aY P) (J:(v,w)∈aY P):0 < ao u v w:=by
 obtain ⟨i,hi,e1⟩:=ze h1;obtain ⟨j,hj,e2⟩:=ze J;have a1:u=aq P i:=congrArg Prod.fst e1;have a2:v=aq P (aX P.length i):=congrArg Prod.snd e1;have b1:v=aq P j:=congrArg Prod.fst e2;have b2:w=aq P (aX P.length j):=congrArg Prod.snd e2;have e:=xA h.nodup (cI hi) hj (a2.symm.trans b1);subst e;have:=h.ph _ hj;rw [zn hi] at this;rw [a1,a2,b2]; exact this
theorem VO {P:List Q2} (h:Ring P):Ring (eI P):=by
 obtain ⟨h1,_,h3⟩:=NM h;have hm:∀ e,e∈aY (eI P)→e∈aY P:=fun e he=>by
  have:=yY he
  rwa [List.take_append_drop] at this
 exact ⟨h1,h3,fun k hk=>TA h (hm _ (qj hk)) (hm _ (j9 hk))⟩
theorem TB {P:List Q2} (h:Ring P) {k:Nat} (hk:k < P.length):0 < ao (aq P k) (aq P (aX P.length k)) (aq P (aX P.length (aX P.length k))):=by
 have:=h.ph _ (cI hk)
 rwa [zn hk] at this
theorem TC {P:List Q2} (h:Ring P) {k:Nat} (hk:k < (eI P).length) (h0:0 < k):0 < fI (aq (eI P) k) (aq (eI P) 0):=by
 obtain ⟨_,hn,h3⟩:=NM h;obtain ⟨a,A,e,hle⟩:=Ga (l:=P) (fun e=>by have:=h.three; rw [e] at this; exact absurd this (by decide))
 have ea:aq (eI P) 0=a:=by rw [e]; rfl
 have h1:=uM.1 (hle _ (uD.1 (eO hk)));rw [← ea] at h1;have J:fI (aq (eI P) k) (aq (eI P) 0)≠0:=fun e=>by
  have:=xA hn hk (by omega) (oY.1 e)
  omega
 omega
instance (L:List Q2) (p:Q2):Decidable (QU L p):=inferInstanceAs (Decidable (∀ k,k < L.length→_))
open Go
theorem OE {o:Bool} (p:PV):aH (.flat false 1 6 (fun _=>p.cells)) (.aP o 6 [p.cells]) :=
 ⟨(fun h=>by cases h),rfl,Nat.le_refl _,fun r hr=>by
  have:r=0:=by have:r < 1:=hr; omega
  subst this; rfl,fun r hr v hv=>dI (show mG p.cells=true from rfl) v hv⟩
def RU (m:Q3) (p:Q2):Prop:=gP m∧0≤aj m p
instance (m:Q3) (p:Q2):Decidable (RU m p):=inferInstanceAs (Decidable (_∧_))
def adB (b:Q4) (l:List Q3) (p:Q2):Prop:=QT b p∧∀ m∈l,RU m p
instance (b:Q4) (p:Q2):Decidable (QT b p):=inferInstanceAs (Decidable (_∧_∧_∧_))
instance (b:Q4) (l:List Q3) (p:Q2):Decidable (adB b l p):=inferInstanceAs (Decidable (_∧_))
theorem abd {k n:Nat} (hk:k < n) (hn:n≤1099511627776):Int.tmod (IntKind.i64.wrap ((k:Int)+2)) (n:Int)=(aX n (aX n k):Int):=by
 rw [ax (by omega) (by omega)]
 show Int.tmod ((k+2:Nat):Int) (n:Int)=(((k+1) % n+1) % n:Nat)
 rw [Nat.mod_add_mod]
 rfl
open Go
def aR (L:List PV):List Q2:=L.map PV.p
def jg (L:List PV) (k:Nat):PV:=L.getD k (c4,c4)
theorem GF {L:List PV} {k:Nat} (h:k < L.length):L[k]?=some (jg L k):=by
 unfold jg; rw [List.getD_eq_getElem?_getD,List.getElem?_eq_getElem h]; rfl
theorem o7 {L:List PV} {k:Nat} (h:k < L.length):jg L k∈L:=List.mem_of_getElem? (GF h)
theorem sh {L:List PV} {k:Nat} (h:k < L.length):cW L k=(jg L k).cells:=by
 unfold cW;rw [List.getD_eq_getElem?_getD,GF h]; rfl
theorem kh {L:List PV} {k:Nat} (h:k < L.length):(jg L k).p=aq (aR L) k:=by
 refine (m6 ?_).symm;unfold aR;rw [List.getElem?_map,GF h]; rfl
theorem Fp {α β:Type} {f:α→List β} {c:Nat} (h:∀ a,(f a).length≤c):∀ l:List α,(l.flatMap f).length≤c*l.length
 | []=>by simp
 | e::l=>by
  have:=Fp h l;have:=h e;rw [List.flatMap_cons,List.length_append,List.length_cons,Nat.mul_add];omega
theorem Xd {l:List Q2} {i:Nat} {a b c:Q2} {z:Int} (ha:a=aq l (db l.length i)) (hb:b=aq l i) (hc:c=aq l (aX l.length i)) (hz:z=aZ (ao a b c) 0):n5 l i=if z≠0 then [b] else []:=by
 unfold n5;rw [← ha,← hb,← hc,hz];by_cases h:ao a b c=0
 ·rw [if_neg (fun e=>e h),if_neg (fun e=>e (Ha h))]
 ·rw [if_pos h,if_pos (fun e=>h (yX.1 e))]
theorem c0 (L:List PV):(aR L).length=L.length:=List.length_map ..
theorem sK {L:List PV} {k:Nat} (h:∀ v∈L,v.sz k) (hk:1≤k):∀ v∈aR L,Q2.sz k v:=fun v hv=>by
 obtain ⟨p,hp,rfl⟩:=List.mem_map.1 hv;exact PV.cL (h p hp) hk
theorem Yn (L:List Q2) (j:Nat):(((aY L).take j).flatMap nk).length≤L.length:=by
 refine Nat.le_trans (Fp (c:=1) (fun e=>by unfold nk; split <;> simp) _) ?_
 rw [List.length_take,ll]; omega
theorem Yo (L:List Q2) (j:Nat):((List.range j).flatMap (n5 L)).length≤j:=by
 refine Nat.le_trans (Fp (c:=1) (fun e=>by unfold n5; split <;> simp) _) ?_
 rw [List.length_range]; omega
end Go.Ae
