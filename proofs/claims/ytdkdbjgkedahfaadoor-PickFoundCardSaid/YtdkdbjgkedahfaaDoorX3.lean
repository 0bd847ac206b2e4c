/- The law PickFound: for every input the call returns true, and the arguments read behind it as they read before. No condition. -/
import Derived.Test.YtdkdbjgkedahfaaDoorX2
namespace Go.Sx
set_option linter.all false
open Go
set_option linter.unusedVariables false
set_option linter.unusedSimpArgs false
variable [Ora]
section
variable {P:Program} {base:Nat} {ρ ρ':Ren} {m m':Mem} {w w':World}
def at0(a:Nat):Ren:=fun _=>some (lc a 0 0)
theorem B7k{a s n c:Nat}(h:n≤c):VR (at0 a) (.slice (some ⟨0,s,none⟩) n (N3+1)) (.slice (some ⟨a,s,none⟩) n c) :=
 VR.op (ρ:=at0 a) (b:=0) (o:=s) (n:=n) (m:=N3+1) (m':=c) (l:=lc a 0 0) rfl (by unfold N3;omega) h (fun h=>by unfold N3 at h;omega)
theorem B6l{a s:Nat}:VR (at0 a) (.pointer (some ⟨0,s,none⟩)) (.pointer (some ⟨a,s,none⟩)):=VR.ptr (ρ:=at0 a) (b:=0) (o:=s) (l:=lc a 0 0) rfl
theorem A7Y{t e:TypeId}{a s n c z sz:Nat}{k:IntKind}(hu:P.underlying t=some (.slice e))(hs:G7 P e=some sz)(hz:z<n)(hc:n≤c)(w:World) :
  (Instr.indexAt t (.slice (some ⟨a,s,none⟩) n c) (.int k (.ofNat z))).run P w=.ok (.pointer (some ⟨a,s+z*sz,none⟩)) w:=by
 have hb:Nat.blt z n=true:=C4 hz;have hm:Z7 P t (.slice (some ⟨0,s,none⟩) n (N3+1)) (.int k (.ofNat z))=some (.pointer (some ⟨0,s+z*sz,none⟩)):=by
  simp only[Z7,hu,hs,hb,cond_true,A0t,E8]
 obtain⟨v',g1,g2⟩:=A1F (P:=P) hm (B7k (a:=a) hc) (.pure rfl) w;obtain⟨l2,hl2,_,rfl⟩:=Q0 g2;cases hl2;exact g1
theorem A6N{t e:TypeId}{a s n z sz:Nat}{k:IntKind}(hu:P.underlying t=some (.array n e))(hs:G7 P e=some sz)(hz:z<n)(w:World) :
  (Instr.indexAt t (.pointer (some ⟨a,s,none⟩)) (.int k (.ofNat z))).run P w=.ok (.pointer (some ⟨a,s+z*sz,none⟩)) w:=by
 have hb:Nat.blt z n=true:=C4 hz;have hm:Z7 P t (.pointer (some ⟨0,s,none⟩)) (.int k (.ofNat z))=some (.pointer (some ⟨0,s+z*sz,none⟩)):=by
  simp only[Z7,hu,hs,hb,cond_true,A0t,E8]
 obtain⟨v',g1,g2⟩:=A1F (P:=P) hm (B6l (a:=a)) (.pure rfl) w;obtain⟨l2,hl2,_,rfl⟩:=Q0 g2;cases hl2;exact g1
theorem A7a{s:TypeId}{a o i z:Nat}{fs:Array Field}{f:Field}(hu:P.underlying s=some (.struct fs))(hf:fs.toList[i]? = some f)(hz:G7 P f.type=some (z+1))(w:World) :
  (Instr.fieldAt s (.pointer (some ⟨a,o,none⟩)) i).run P w=.ok (.pointer (some ⟨a,o+f.offset,none⟩)) w:=by
 have hm:A1G P s (.pointer (some ⟨0,o,none⟩)) i=some (.pointer (some ⟨0,o+f.offset,none⟩)):=by
  simp only[A1G,hu,hf,hz,A0t,E8]
 obtain⟨v',g1,g2⟩:=A4Q (P:=P) hm (B6l (a:=a)) w;obtain⟨l2,hl2,_,rfl⟩:=Q0 g2;cases hl2;exact g1
theorem B1u{i t wd:Nat}{nul:Bool}{rows:List (List U)}{z z' k v:Value}(h:B3l m i t z k=some (v,m'))(hi:Ora.env i=.seq nul wd rows)(ht:t=10+wd)(hz:VR ρ z z')(hS:Sat m'.lg) :
  v=k∧(∃ kk n,z'=.int kk (.ofNat n)∧n<rows.length∧A50 Ora.env z=some (.ofNat n))∧J9 m m'∧m.lg.le m'.lg:=by
 unfold B3l at h;cases hq:!(Nat.blt (G4 z) 8)with
 | true=>rw[hq]at h;cases h
 | false =>
   have h8:G4 z<8:=by
    have:Nat.blt (G4 z) 8=true:=by simpa using hq
    exact A1 this
   rw[hq]at h;simp only[cond_false]at h;split at h
   ·rename_i b H n W hh lg hl;split at h
    ·rename_i lg2 hb;cases h;have hle1:=J5 hl;have hle2:=A4Y hb;obtain⟨u,e1,e2,r,e3,e4,_⟩:=N0 hl (U7.le hS hle2);have hb2:=A5z hb (e4 ρ) hS;subst hb2;obtain⟨kk,y,rfl,f2,_⟩:=O0 hz h8;have harg:[z,hole i t].map (F8 Ora.env)=[.int kk y,.seq nul wd rows]:=by
      simp only[F9,I3,f2];show[_,Ora.env i]=_;rw[hi]
     rw[harg]at e1;have e1:(if wd=t-10 then U.bool (decide (0≤y) && decide (y<rows.length))else U.none)=u:=e1;rw[if_pos (by omega)]at e1;subst e1;have e3:some (Value.bool (decide (0≤y) && decide (y<rows.length)))=some (.bool true):=e3;have e5:(decide (0≤y) && decide (y<rows.length))=true:=by simpa using e3
     simp only[I0,decide_eq_true_eq]at e5;obtain⟨n0,rfl⟩:∃ n0:Nat,y=.ofNat n0:=⟨y.toNat,by have:=Int.toNat_of_nonneg e5.1;exact this.symm⟩;refine⟨rfl,⟨kk,n0,rfl,?_,B6m f2⟩,J9.trans (I7 hl) ⟨lg2,rfl⟩,hle1.trans hle2⟩
     have:=e5.2;have:(n0:Int)<rows.length:=this;omega
    ·cases h
   ·cases h
theorem C50{G:Nat→Option Obj}{nul:Bool}{wd:Nat}{rows:List (List U)}{v:Value}(h:Enc G (.seq nul wd rows) v)(hr:rows≠[]):nul=false∧∃ a o c,v=.slice (some ⟨a,o,none⟩) rows.length c∧rows.length≤c:=by
 cases h with
 | sc h=>cases h
 | nil=>exact absurd rfl hr
 | emp=>exact absurd rfl hr
 | sl hc _ _ _ _=>exact⟨rfl,_,_,_,rfl,hc⟩
theorem B4s{u:U}{t:Nat}(h:L4 u=t)(h10:10≤t):u=.none∨∃ nul wd rows,u=.seq nul wd rows∧t=10+wd:=by
 cases u with
 | none=>exact .inl rfl
 | int k n=>have:=A3W k;simp[L4]at h;omega
 | bool b=>simp[L4]at h;omega
 | str s=>simp[L4]at h;omega
 | seq nul wd rows=>exact .inr ⟨nul,wd,rows,rfl,h.symm⟩
theorem A2e{G:Nat→Option Obj}{u:U}{v:Value}{t:Nat}(h:Enc G u v)(ht:L4 u=t)(h10:10≤t):∃ nul wd rows,u=.seq nul wd rows∧t=10+wd:=by
 rcases B4s ht h10 with rfl|h1
 ·cases h with
  | sc h=>cases h
 ·exact h1
theorem B00{t e:TypeId}{b i tg s:Nat}{l:Loc}{z z' v v':Value}(hu:P.underlying t=some (.slice e))(hs:G7 P e=some (s+1))(htg:tg=10+(s+1))(h1:ρ b=some l)(h2:Enc l.G (Ora.env i) v')(h3:L4 (Ora.env i)=tg)
  (h:B3l m i tg z (dpt b i tg z 0)=some (v,m')) (hz:VR ρ z z') (hS:Sat m'.lg):(∃ r,(Instr.indexAt t v' z').run P w=.ok r w∧VR ρ v r)∧J9 m m'∧m.lg.le m'.lg:=by
 obtain⟨nul,wd,rows,e1,e2⟩:=A2e h2 h3 (by omega);obtain⟨rfl,⟨kk,n,rfl,hn,hzz⟩,g1,g2⟩:=B1u h e1 e2 hz hS;have hwd:wd=s+1:=by omega
 subst hwd;have hne:rows≠[]:=by intro e;subst e;simp at hn
 rw[e1]at h2;obtain⟨rfl,a,o,c,rfl,hc⟩:=C50 h2 hne;refine⟨⟨_,A7Y hu hs hn hc w,.dpt ⟨l,s+1,rows,a,o,c,n,h1,e1,by rw[e1];exact h2,hzz,hn,by omega,by simp⟩ h3 rfl⟩,g1,g2⟩
theorem B3j{t:TypeId}{x x' z z' v:Value}(h:A4N P m t x z=some (v,m'))(hx:VR ρ x x')(hz:VR ρ z z')(hS:Sat m'.lg):(∃ r,(Instr.indexAt t x' z').run P w=.ok r w∧VR ρ v r)∧J9 m m'∧m.lg.le m'.lg:=by
 unfold A4N at h;split at h
 ·rename_i e b i tg hu;split at h
  ·rename_i s hs;obtain⟨ht,h⟩:=A5 h;have ht:=A2 ht;obtain⟨hown,htag⟩:=A2X hx;rcases hown with⟨l,wd,h1,h2,h3,rfl⟩|⟨l,wd,rows,h1,h2,h3,h4,h40,rfl⟩
   ·obtain⟨_,⟨kk,n,_,hn,_⟩,_⟩:=B1u h h3 (by rw[h3]at htag;exact htag.symm) hz hS;simp at hn
   ·have e2:tg=10+wd:=by rw[h3]at htag;exact htag.symm
    obtain⟨rfl,⟨kk,n,rfl,hn,hzz⟩,g1,g2⟩:=B1u h h3 e2 hz hS;have hwd:wd=s+1:=by omega
    subst hwd;exact⟨⟨_,A7Y hu hs (by omega) h40 w,.opt ⟨l,s+1,rows,n,h1,h2,h3,hzz,by omega,by omega,by simp⟩ htag rfl⟩,g1,g2⟩
  ·cases h
 ·rename_i e b i tg hu;split at h
  ·rename_i s hs;obtain⟨ht,h⟩:=A5 h;have ht:=A2 ht;obtain⟨l,h1,h2,h3,_⟩:=A4y hx;exact B00 hu hs ht h1 h2 h3 h hz hS
  ·cases h
 ·rename_i e b i tg hu;split at h
  ·rename_i s hs;obtain⟨ht,h⟩:=A5 h;have ht:=A2 ht;obtain⟨l,h1,h2,h3,_⟩:=A2Y hx;exact B00 hu hs ht h1 h2 h3 h hz hS
  ·cases h
 ·rename_i n e b i tg y o hu;split at h
  ·rename_i s kk k hs;obtain⟨hk,h⟩:=A5 h;obtain⟨hk,hw⟩:=B8 hk;have hk:=A1 hk;have hw:o+k*s<tg-10:=A1 hw;rw[E8]at h;cases h;cases J2 hz;obtain⟨⟨l,wd,rows,a,s0,c,q,e1,e2,e3,e4,e5,e6,rfl⟩,e8⟩:=B1s hx;have hwd:tg-10=wd:=by rw[← e8,e2];simp[L4]
   refine⟨⟨_,A6N hu hs hk w,.dpt ⟨l,wd,rows,a,s0,c,q,e1,e2,e3,e4,e5,by omega,by simp⟩ e8 rfl⟩,.refl _,.refl _⟩
  ·cases h
 ·rename_i n e b i tg y o hu;split at h
  ·rename_i s kk k hs;obtain⟨hk,h⟩:=A5 h;obtain⟨hk,hw⟩:=B8 hk;have hk:=A1 hk;have hw:o+k*s<tg-10:=A1 hw;rw[E8]at h;cases h;cases J2 hz;obtain⟨⟨l,wd,rows,q,e1,e2,e3,e4,e5,e6,rfl⟩,e8⟩:=A8F hx;have hwd:tg-10=wd:=by rw[← e8,e3];simp[L4]
   refine⟨⟨_,A6N hu hs hk w,.opt ⟨l,wd,rows,q,e1,e2,e3,e4,e5,by omega,by simp⟩ e8 rfl⟩,.refl _,.refl _⟩
  ·cases h
 ·cases h
theorem B3w{s:TypeId}{x x' v:Value}{f:Nat}(h:A4R P m s x f=some (v,m'))(hx:VR ρ x x'):(∃ r,(Instr.fieldAt s x' f).run P w=.ok r w∧VR ρ v r)∧m'=m:=by
 unfold A4R at h;split at h
 ·rename_i fs b i tg y o hu;split at h
  ·rename_i fd hf;split at h
   ·rename_i z hz;obtain⟨hw,h⟩:=A5 h;have hw:o+fd.offset<tg-10:=A1 hw;rw[E8]at h;cases h;obtain⟨⟨l,wd,rows,a,s0,c,q,e1,e2,e3,e4,e5,e6,rfl⟩,e8⟩:=B1s hx;have hwd:tg-10=wd:=by rw[← e8,e2];simp[L4]
    exact⟨⟨_,A7a hu hf hz w,.dpt ⟨l,wd,rows,a,s0,c,q,e1,e2,e3,e4,e5,by omega,by simp⟩ e8 rfl⟩,rfl⟩
   ·cases h
  ·cases h
 ·rename_i fs b i tg y o hu;split at h
  ·rename_i fd hf;split at h
   ·rename_i z hz;obtain⟨hw,h⟩:=A5 h;have hw:o+fd.offset<tg-10:=A1 hw;rw[E8]at h;cases h;obtain⟨⟨l,wd,rows,q,e1,e2,e3,e4,e5,e6,rfl⟩,e8⟩:=A8F hx;have hwd:tg-10=wd:=by rw[← e8,e3];simp[L4]
    exact⟨⟨_,A7a hu hf hz w,.opt ⟨l,wd,rows,q,e1,e2,e3,e4,e5,by omega,by simp⟩ e8 rfl⟩,rfl⟩
   ·cases h
  ·cases h
 ·cases h
end
end Go.Sx
namespace Go.Sx
set_option linter.all false
open Go
set_option linter.unusedVariables false
set_option linter.unusedSimpArgs false
variable [Ora]
section
variable {P:Program} {base:Nat} {ρ ρ':Ren} {m m':Mem} {w w':World}
theorem A0M{G:Nat→Option Obj}{nul:Bool}{wd:Nat}{rows:List (List U)}{v:Value}(h:Enc G (.seq nul wd rows) v):(nul=true∧rows=[]∧v=.slice none 0 0)∨(nul=false∧∃ (a:Addr) (c:Nat),v=.slice (some a) rows.length c∧rows.length≤c):=by
 cases h with
 | sc h=>cases h
 | nil=>exact .inl ⟨rfl,rfl,rfl⟩
 | emp=>exact .inr ⟨rfl,_,_,rfl,A7 _⟩
 | sl hc _ _ _ _=>exact .inr ⟨rfl,_,_,rfl,hc⟩
theorem A35{t e ty:TypeId}{a:Option Addr}{n c:Nat}{tys:List TypeId}(hu:P.underlying t=some (.slice e))(w:World):(Builtin.len_ ⟨t::tys⟩ ty #[.slice a n c]).run P w=.ok (.int .i64 n) w:=by
 simp[Builtin.len_,Sem.run_bind,D8 hu,Result.andThen,goInt]
theorem C11{i t:Nat}{v:Value}{nul:Bool}{wd:Nat}{rows:List (List U)}(h:Z6 m 3 .len [hole i t]=some (v,m'))(hi:Ora.env i=.seq nul wd rows)(hS:Sat m'.lg):VR ρ v (.int .i64 rows.length)∧J9 m m'∧m.lg.le m'.lg∧F8 Ora.env v=.int .i64 rows.length:=by
 obtain⟨u,e1,e2,r,e3,e4,e5⟩:=N0 h hS;have harg:[hole i t].map (F8 Ora.env)=[.seq nul wd rows]:=by
  show[Ora.env i]=_;rw[hi]
 rw[harg]at e1;have e1:U.int .i64 rows.length=u:=e1;subst e1;cases e3;refine⟨e4 ρ,I7 h,J5 h,?_⟩;obtain⟨rfl,rfl⟩:=A4w h;obtain⟨h1,h2,h3⟩:=hS (.lt m.lg.nx 3 .len [hole i t]) (by cases m;exact B6);show Ora.env m.lg.nx=_;rw[h1,harg];rfl
theorem A4P{i j:Nat}:∀ {l:List y4},A6l i l=some j→∃ tg,y4.lt j 3 .len [hole i tg] ∈ l
 | [],h=>by cases h
 | e::r,h=>by
   unfold A6l at h;split at h
   ·cases h
   ·rename_i j' t k tg r' he;cases he;cases hq:Nat.beq k i && Nat.beq t 3 with
    | true =>
      rw[hq]at h;cases h;obtain⟨h1,h2⟩:=B8 hq;have h1:=A2 h1;have h2:=A2 h2;subst h1;subst h2;exact⟨tg,.head _⟩
    | false =>
      rw[hq]at h;obtain⟨tg',h3⟩:=A4P h;exact⟨tg',.tail _ h3⟩
   ·rename_i he;cases he;obtain⟨tg',h3⟩:=A4P h;exact⟨tg',.tail _ h3⟩
theorem A1k{i t:Nat}{v:Value}(h:B3a m i t=some (v,m')):J9 m m'∧m.lg.le m'.lg:=by
 unfold B3a at h;split at h
 ·cases h;exact⟨J9.refl _,.refl _⟩
 ·exact⟨I7 h,J5 h⟩
theorem A6b{i t:Nat}{v:Value}{nul:Bool}{wd:Nat}{rows:List (List U)}(h:B3a m i t=some (v,m'))(hi:Ora.env i=.seq nul wd rows)(hS:Sat m'.lg):VR ρ v (.int .i64 rows.length)∧J9 m m'∧m.lg.le m'.lg∧F8 Ora.env v=.int .i64 rows.length:=by
 unfold B3a at h;split at h
 ·rename_i j hj;cases h;obtain⟨tg,hm⟩:=A4P hj;obtain⟨h1,h2,_⟩:=hS _ hm;have harg:[hole i tg].map (F8 Ora.env)=[.seq nul wd rows]:=by
   show[Ora.env i]=_;rw[hi]
  rw[harg]at h1;have h1:Ora.env j=.int .i64 rows.length:=h1;refine⟨.hole ?_ ?_,J9.refl _,.refl _,h1⟩
  ·rw[h1];rfl
  ·rw[h1];rfl
 ·exact C11 h hi hS
theorem B7N{b:Nat}{u:U}{v':Value}(h:B88 ρ b u v'):∃ nul wd rows a c,u=.seq nul wd rows∧v'=.slice a rows.length c:=by
 rcases h with⟨l,wd,h1,h2,h3,rfl⟩|⟨l,wd,rows,h1,h2,h3,h4,h40,rfl⟩
 ·exact⟨_,_,_,_,_,h3,rfl⟩
 ·exact⟨_,_,_,_,_,h3,by rw[h4]⟩
theorem C12{t ty:TypeId}{tys:List TypeId}{x x' v:Value}(h:C13 P m t x=some (v,m'))(hx:VR ρ x x')(hS:Sat m'.lg):(∃ r,(Builtin.len_ ⟨t::tys⟩ ty #[x']).run P w=.ok r w∧VR ρ v r)∧J9 m m'∧m.lg.le m'.lg:=by
 unfold C13 at h;split at h
 ·rename_i e b i tg hu;obtain⟨l,h1,h2,h3,h4⟩:=A4y hx;obtain⟨nul,wd,rows,e1,_⟩:=A2e h2 h3 h4;obtain⟨g1,g2,g3,_⟩:=A6b (ρ:=ρ) h e1 hS;rw[e1]at h2;rcases A0M h2 with⟨rfl,rfl,rfl⟩|⟨rfl,a,c,rfl,_⟩
  ·exact⟨⟨_,A35 hu w,g1⟩,g2,g3⟩
  ·exact⟨⟨_,A35 hu w,g1⟩,g2,g3⟩
 ·rename_i e b i tg hu;obtain⟨l,h1,h2,h3,h4,_⟩:=A2Y hx;obtain⟨nul,wd,rows,e1,_⟩:=A2e h2 h3 h4;obtain⟨g1,g2,g3,_⟩:=A6b (ρ:=ρ) h e1 hS;rw[e1]at h2;rcases A0M h2 with⟨rfl,rfl,rfl⟩|⟨rfl,a,c,rfl,_⟩
  ·exact⟨⟨_,A35 hu w,g1⟩,g2,g3⟩
  ·exact⟨⟨_,A35 hu w,g1⟩,g2,g3⟩
 ·rename_i e b i tg hu;obtain⟨nul,wd,rows,a,c,e1,rfl⟩:=B7N (A2X hx).1;obtain⟨g1,g2,g3,_⟩:=A6b (ρ:=ρ) h e1 hS;exact⟨⟨_,A35 hu w,g1⟩,g2,g3⟩
 ·cases h
theorem B0p{v v':Value}{n:Nat}(hv:VR ρ v v')(ht:A87 v=true){kk:IntKind}(ha:F8 Ora.env v=.int kk (.ofNat n)):∃ j,v'=.int j (.ofNat n):=by
 obtain⟨k,z,rfl,f2,_⟩:=O0 hv (A1 ht);rw[f2]at ha;injection ha with _ hb
 exact⟨k,by rw[hb]⟩
theorem B8e{h x h' x':Value}(hs:B5i h x=true)(h1:VR ρ h h')(h2:VR ρ x x'):h'=x':=by
 unfold B5i at hs;split at hs
 ·rename_i i t1 j t2
  have:=A2 hs;subst this;have hh:∀ {t:Nat} {v:Value},VR ρ (.complex .f64 i t) v→toV (Ora.env i)=some v:=fun{t v} h=>by
   cases h with
   | pure hp=>simp[I2]at hp
   | hole h _=>exact h
  have a:=hh h1;rw[hh h2]at a;exact(A8 a).symm
 ·obtain⟨e1,e2⟩:=B8 hs;have e1:=A6M e1;rw[A2d]at e2;have e2:=eq_of_beq e2;subst e1;subst e2;cases J2 h1;cases J2 h2;rfl
 ·cases hs
theorem B9s{wd v:Nat}{nul:Bool}{rows:List (List U)}{a b:U}(hne:evU (.subs wd) [.seq nul v rows,a,b]≠.none):∃ k1 l k2 h,a=.int k1 (.ofNat l)∧b=.int k2 (.ofNat h)∧v=wd∧l≤h∧h≤rows.length:=by
 cases a with
 | int k1 z1=>cases z1 with
   | ofNat l=>cases b with
     | int k2 z2=>cases z2 with
       | ofNat h =>
         have hne:(if v=wd∧l≤h∧h≤rows.length then U.seq nul wd ((rows.drop l).take (h-l))else .none)≠.none:=hne;by_cases hc:v=wd∧l≤h∧h≤rows.length
         ·exact⟨k1,l,k2,h,rfl,rfl,hc.1,hc.2.1,hc.2.2⟩
         ·rw[if_neg hc]at hne;exact(hne rfl).elim
       | negSucc _=>exact(hne rfl).elim
     | _=>exact(hne rfl).elim
   | negSucc _=>exact(hne rfl).elim
 | _=>exact(hne rfl).elim
theorem C2J{G:Nat→Option Obj}{nul:Bool}{wd l h mm n c:Nat}{rows:List (List U)}{a:Option Addr}(he:Enc G (.seq nul wd rows) (.slice a n c))(hl:l≤h)(hh:h≤rows.length)(hm:h≤mm)(hmc:mm≤c) :
  Enc G (.seq nul wd ((rows.drop l).take (h-l))) (.slice (if mm=l then a else a.map (·.add (l*wd))) (h-l) (mm-l))∨a=none:=by
 cases he with
 | sc h=>cases h
 | nil=>exact .inr rfl
 | emp =>
   rename_i a;have e1:h=0:=by simpa using hh
   subst e1;have e2:l=0:=by omega
   subst e2;have e3:mm=0:=by omega
   subst e3;exact .inl .emp
 | sl hc hg hz hw hrow =>
   rename_i a o C T fz;refine .inl ?_;have hlen:((rows.drop l).take (h-l)).length=h-l:=by simp;omega
   have key:∀ b o2,(h-l≠0→b=a∧o2=o+l*wd)→Enc G (.seq false wd ((rows.drop l).take (h-l))) (.slice (some ⟨b,o2,none⟩) (h-l) (mm-l)):=fun b o2 hb=>by
    have hgo:∀ r row,((rows.drop l).take (h-l))[r]? = some row→h-l≠0∧rows[l+r]? = some row:=fun r row hr=>by
     have hlt:=(A9.1 hr).1;rw[hlen]at hlt;rw[F5 hlt,H9]at hr;exact⟨by omega,hr⟩
    have hne:(rows.drop l).take (h-l)≠[]→h-l≠0∧rows≠[]:=fun hne=>by
     constructor
     ·intro e;rw[e]at hne;simp at hne
     ·intro e;subst e;simp at hne
    have:=Enc.sl (G:=G) (w:=wd) (rows:=(rows.drop l).take (h-l)) (a:=b) (o:=o2) (c:=mm-l) (C:=C) (T:=T) (fz:=fz) (by omega)
     (fun hn=>by obtain⟨e1,e2⟩:=hne hn;rw[(hb e1).1];exact hg e2)
     (fun hn=>by
       obtain⟨e1,e2⟩:=hne hn;rw[hlen,(hb e1).2];have h1:=hz e2;have h2:(l+(h-l))*wd≤rows.length*wd:=F2 wd (by omega);rw[H1]at h2;omega)
     (fun row hr=>hw row (List.mem_of_mem_drop (List.mem_of_mem_take hr)))
     (fun r row j u v q1 q2 q3=>by
       obtain⟨e1,e2⟩:=hgo r row q1;rw[(hb e1).2]at q3;refine hrow (l+r) row j u v e2 q2 ?_;rw[H1,show o+(l*wd+r*wd)+j=o+l*wd+r*wd+j by omega];exact q3)
    rw[hlen]at this;exact this
   by_cases hml:mm=l
   ·rw[if_pos hml];exact key a o fun h=>by omega
   ·rw[if_neg hml];have e:(Addr.mk a o none).add (l*wd)=⟨a,o+l*wd,none⟩:=by
     unfold Addr.add;split
     ·rename_i h;rw[h];rfl
     ·rfl
    show Enc G _ (.slice (some ((Addr.mk a o none).add (l*wd))) _ _);rw[e];exact key a (o+l*wd) fun _=>⟨rfl,rfl⟩
theorem B2A{t e:TypeId}{b i tg s:Nat}{cl:Bool}{l:Loc}{lo hi mx lo' hi' mx':Option Value}{v x':Value}(hu:P.underlying t=some (.slice e))(hs:G7 P e=some s)(htg:tg=10+s)(h1:ρ b=some l)(h2:Enc l.G (Ora.env i) x')(h3:L4 (Ora.env i)=tg)
  (hcl:cl=true→C0F x') (h:B32 m b i tg cl lo hi mx=some (v,m')) (hlo:OR ρ lo lo') (hhi:OR ρ hi hi') (hmx:OR ρ mx mx') (hS:Sat m'.lg):(∃ r,(Instr.sliceAt t x' lo' hi' mx').run P w=.ok r w∧VR ρ v r)∧J9 m m'∧m.lg.le m'.lg:=by
 have none_inv:∀ {o:Option Value},OR ρ none o→o=none:=fun{o} h=>by cases o<;>first|rfl|exact h.elim
 have some_inv:∀ {y:Value} {o:Option Value},OR ρ (some y) o→∃ y',o=some y'∧VR ρ y y':=fun{y o} h=>by cases o<;>first|exact h.elim|exact⟨_,rfl,h⟩
 obtain⟨nul,wd,rows,e1,e2⟩:=A2e h2 h3 (by omega);have hwd:wd=s:=by omega
 subst hwd;rw[e1]at h2;obtain⟨a,n,c,hx',hn,hnc⟩:∃ a n c,x'=.slice a n c∧n=rows.length∧n≤c:=by
  rcases A0M h2 with⟨rfl,rfl,rfl⟩|⟨rfl,a,c,rfl,hc⟩
  ·exact⟨_,_,_,rfl,rfl,A7 _⟩
  ·exact⟨_,_,_,rfl,rfl,hc⟩
 subst hx';have go:∀ {m:Mem} {lv hv:Value} {cc:Bool} {lv':Option Value} {hh mm:Nat},A2g m b i tg lv hv cc=some (v,m') →
   (lv'=none∧lv=.int .i64 0∨∃ y,lv'=some y∧VR ρ lv y)→(∀ kk q,F8 Ora.env hv=.int kk (.ofNat q)→q≤rows.length→q=hh∧Bd mx' c c mm∧(hi'=none→mx'=none)∧Bd hi' mm n hh∧hh≤mm∧(cc=true→mm=hh)) →
   (∃ r,(Instr.sliceAt t (.slice a n c) lv' hi' mx').run P w=.ok r w∧VR ρ v r)∧J9 m m'∧m.lg.le m'.lg:=fun{m lv hv cc lv' hh mm} h hlv hhv=>by
  unfold A2g at h;obtain⟨hint,h⟩:=A5 h;obtain⟨hi1,hi2⟩:=B8 hint;rw[S3]at h;simp only[D3,O5]at h;obtain⟨rfl,rfl⟩:=h;obtain⟨f1,f2,nul2,wd2,rows2,f3,f4⟩:=A5L hS (.refl _);have harg:[hole i tg,lv,hv].map (F8 Ora.env)=[.seq nul wd rows,F8 Ora.env lv,F8 Ora.env hv]:=by
   show[Ora.env i,_,_]=_;rw[e1]
  rw[harg]at f1;have h10:tg-10=wd:=by omega
  rw[h10]at f1;obtain⟨k1,l0,k2,h0,a1,a2,a3,a4⟩:∃ k1 l0 k2 h0,F8 Ora.env lv=.int k1 (.ofNat l0)∧F8 Ora.env hv=.int k2 (.ofNat h0)∧l0≤h0∧h0≤rows.length:=by
   have hne:evU (.subs wd) [.seq nul wd rows,F8 Ora.env lv,F8 Ora.env hv]≠.none:=by rw[← f1,f3];intro h;cases h
   obtain⟨k1,l0,k2,h0,q1,q2,_,q3,q4⟩:=B9s hne;exact⟨k1,l0,k2,h0,q1,q2,q3,q4⟩
  rw[a1,a2]at f1;have f1:Ora.env m.lg.nx=if wd=wd∧l0≤h0∧h0≤rows.length then U.seq nul wd ((rows.drop l0).take (h0-l0))else .none:=f1
  rw[if_pos ⟨rfl,a3,a4⟩]at f1;obtain⟨rfl,b1,b2,b3,b4,b5⟩:=hhv k2 h0 a2 a4;have b6:Bd lv' h0 0 l0:=by
   rcases hlv with⟨rfl,rfl⟩|⟨y,rfl,hy⟩
   ·cases a1;exact .inl ⟨rfl,rfl⟩
   ·obtain⟨j,rfl⟩:=B0p hy hi1 a1;exact .inr ⟨j,rfl,a3⟩
  have hrun:=A7X (P:=P) (a:=a) (n:=n) (c:=c) hu hs b1 b2 b3 b6 w;have henc:Enc l.G (Ora.env m.lg.nx) (.slice (if mm=l0 then a else a.map (·.add (l0*wd))) (h0-l0) (mm-l0)):=by
   rw[f1];rcases C2J (mm:=mm) h2 a3 a4 b4 (by rcases b1 with⟨_,rfl⟩|⟨_,_,b1⟩<;>omega)with he|rfl
   ·exact he
   ·rcases A0M h2 with⟨rfl,rfl,hq⟩|⟨_,_,_,hq,_⟩
    ·cases hq;have z1:h0=0:=by simp at a4;exact a4
     have z2:l0=0:=by omega
     have z3:mm=0:=by
      rcases b1 with⟨_,rfl⟩|⟨_,_,b1⟩<;>omega
     subst z1;subst z2;subst z3;exact .nil
    ·cases hq
  refine⟨⟨_,hrun,?_⟩,⟨_,rfl⟩,m6⟩;cases cc with
  | false=>exact .dat h1 henc f2 (by omega) rfl
  | true =>
    refine .clp h1 henc f2 (by omega) rfl ?_;show mm-l0=h0-l0;rw[b5 rfl]
 have nat_of:∀ {hv y:Value} {kk:IntKind} {q:Nat},VR ρ hv y→A87 hv=true→F8 Ora.env hv=.int kk (.ofNat q)→∃ j,y=.int j (.ofNat q):=fun h1 h2 h3=>B0p h1 h2 h3
 have hint_of:∀ {m:Mem} {lv hv:Value} {cc:Bool},A2g m b i tg lv hv cc=some (v,m')→A87 hv=true:=fun h=>by
  unfold A2g at h;exact(B8 (A5 h).1).2
 have main:∀ lv,(lo'=none∧lv=.int .i64 0∨∃ y,lo'=some y∧VR ρ lv y)→B31 m b i tg cl lv hi mx=some (v,m')→(∃ r,(Instr.sliceAt t (.slice a n c) lo' hi' mx').run P w=.ok r w∧VR ρ v r)∧J9 m m'∧m.lg.le m'.lg:=fun lv hlv h=>by
  cases hi with
  | some hv =>
    obtain⟨hv',rfl,hvv⟩:=some_inv hhi;cases mx with
    | none =>
      cases none_inv hmx;have h:A2g m b i tg lv hv false=some (v,m'):=h;have hint:=hint_of h;obtain⟨kk,q,hq⟩:∃ kk q,F8 Ora.env hv=.int kk q:=by
       obtain⟨k,z,_,f2,_⟩:=O0 hvv (A1 hint);exact⟨k,z,f2⟩
      exact go (hh:=q.toNat) (mm:=c) h hlv fun kk2 q2 h1 h2=>by
       rw[hq]at h1;injection h1 with _ h1
       subst h1;obtain⟨j,rfl⟩:=nat_of hvv hint hq;have e:(Int.ofNat q2).toNat=q2:=rfl;rw[e];exact⟨rfl,.inl ⟨rfl,rfl⟩,fun h=>(by cases h),.inr ⟨j,rfl,by omega⟩,by omega,fun h=>by cases h⟩
    | some x =>
      obtain⟨x',rfl,hxx⟩:=some_inv hmx;have h:(bif B5i hv x then A2g m b i tg lv hv true else none)=some (v,m'):=h;obtain⟨hsame,h⟩:=A5 h;have hint:=hint_of h
      have:=B8e hsame hvv hxx;subst this;obtain⟨kk,q,hq⟩:∃ kk q,F8 Ora.env hv=.int kk q:=by
       obtain⟨k,z,_,f2,_⟩:=O0 hvv (A1 hint);exact⟨k,z,f2⟩
      exact go (hh:=q.toNat) (mm:=q.toNat) h hlv fun kk2 q2 h1 h2=>by
       rw[hq]at h1;injection h1 with _ h1
       subst h1;obtain⟨j,rfl⟩:=nat_of hvv hint hq;have e:(Int.ofNat q2).toNat=q2:=rfl;rw[e];exact⟨rfl,.inr ⟨j,rfl,by omega⟩,fun h=>(by cases h),.inr ⟨j,rfl,A7 _⟩,A7 _,fun _=>rfl⟩
  | none =>
    cases none_inv hhi;cases mx with
    | some x=>cases h
    | none =>
      cases none_inv hmx;unfold B31 at h;simp only at h;split at h
      ·rename_i hv m1 hl;have hle2:J9 m1 m'∧m1.lg.le m'.lg:=by
        unfold A2g at h;obtain⟨_,h⟩:=A5 h;rw[S3]at h;simp only[D3,O5]at h;obtain⟨_,rfl⟩:=h;exact⟨⟨_,rfl⟩,m6⟩
       obtain⟨q1,q2,q3,q4⟩:=A6b (ρ:=ρ) hl e1 (hS.le hle2.2);obtain⟨r1,r2,r3⟩:=go (hh:=rows.length) (mm:=c) h hlv fun kk2 q2 h1 h2=>by
        rw[q4]at h1;injection h1 with _ h1
        have h1:((rows.length:Nat):Int)=(q2:Nat):=h1;have:q2=rows.length:=by omega
        subst this;refine⟨rfl,.inl ⟨rfl,rfl⟩,fun _=>rfl,.inl ⟨rfl,hn.symm⟩,by omega,fun hc=>?_⟩
        have:=hcl hc;have:c=n:=this;omega
       exact⟨r1,q2.trans r2,q3.trans r3⟩
      ·cases h
 cases lo with
 | none=>exact main _ (.inl ⟨none_inv hlo,rfl⟩) h
 | some y=>obtain⟨y',q1,q2⟩:=some_inv hlo;exact main _ (.inr ⟨y',q1,q2⟩) h
end
end Go.Sx
namespace Go.Sx
set_option linter.all false
open Go
set_option linter.unusedVariables false
set_option linter.unusedSimpArgs false
variable [Ora]
section
variable {P:Program} {base:Nat} {ρ ρ':Ren} {m m':Mem} {w w':World}
def O9(R:Nat→Option Obj)(rows:List (List U))(wd:Nat)(C:Array Value)(o:Nat):Prop :=
 (∀ row ∈ rows,row.length=wd)∧∀ (r:Nat) (row:List U) (j:Nat) (u:U) (v:Value),rows[r]? = some row→row[j]? = some u→C[o+r*wd+j]? = some v→Enc R u v
theorem O9.mono{R R':Nat→Option Obj}{rows:List (List U)}{wd o:Nat}{C:Array Value}(h:O9 R rows wd C o)(hs:Sub R R'):O9 R' rows wd C o:=⟨h.1,fun r row j u v a b c=>(h.2 r row j u v a b c).mono hs⟩
theorem O9.nil{R:Nat→Option Obj}{wd o:Nat}{C:Array Value}:O9 R [] wd C o:=⟨fun _ h=>by(cases h),fun r row j u v h=>by simp at h⟩
theorem A48{wd:Nat}:∀ {n:Nat} {l:List U} {r:List (List U)},A0E wd n l=some r→r.length=n∧l.length=n*wd∧(∀ row ∈ r,row.length=wd)∧∀ (q:Nat) (row:List U) (j:Nat) (u:U),r[q]? = some row→row[j]? = some u→l[q*wd+j]? = some u
 | 0,[],r,h=>by cases h;exact⟨rfl,by simp,fun _ h=>(by cases h),fun q row j u h=>by simp at h⟩
 | 0,_::_,r,h=>by cases h
 | n+1,l,r,h=>by
   unfold A0E at h;split at h
   ·rename_i hle;split at h
    ·rename_i r0 hr;cases h;obtain⟨h1,h2,h3,h4⟩:=A48 hr;have hd:l.length=(n+1)*wd:=by
      rw[M8]at h2;rw[H1];omega
     refine⟨by simp[h1],hd,fun row hrow=>?_,fun q row j u g1 g2=>?_⟩
     ·rcases C5.1 hrow with rfl|hrow
      ·simp;omega
      ·exact h3 row hrow
     ·cases q with
      | zero =>
        simp at g1;subst g1;have hj:=(A9.1 g2).1;simp at hj;rw[F5 (by omega)]at g2
        simpa using g2
      | succ q =>
        have:=h4 q row j u (by simpa using g1) g2;rw[H9]at this;rw[show(q+1)*wd+j=wd+(q*wd+j) by rw[H1];omega];exact this
    ·cases h
   ·cases h
theorem A5t{wd:Nat}:∀ (n:Nat) (l:List U),l.length=n*wd→∃ r,A0E wd n l=some r
 | 0,[],_=>⟨[],rfl⟩
 | 0,_::_,h=>by simp at h
 | n+1,l,h=>by
   rw[H1]at h;obtain⟨r,hr⟩:=A5t (wd:=wd) n (l.drop wd) (by rw[M8];omega);refine⟨l.take wd::r,?_⟩;unfold A0E;rw[if_pos (by omega),hr]
theorem A5I{R:Nat→Option Obj}{us:List U}{vs:List Value}{wd n:Nat}{rows:List (List U)}(h:n8 R us vs)(hc:A0E wd n us=some rows):O9 R rows wd ⟨vs⟩ 0:=by
 obtain⟨h1,h2,h3,h4⟩:=A48 hc;refine⟨h3,fun r row j u v g1 g2 g3=>h.2 _ u v (h4 r row j u g1 g2) ?_⟩
 simpa using g3
theorem A8n{α:Type}{l:List α}:∀ n,(B4w l n).length=n*l.length
 | 0=>by simp[B4w]
 | n+1=>by simp[B4w,A8n n,H1];omega
theorem A22(s:List UInt8):(A3m s).length=s.length:=by simp[A3m]
theorem B24{R:Nat→Option Obj}(s:List UInt8):O9 R (A3m s) 1 ⟨P8 s⟩ 0:=by
 refine⟨fun row hr=>?_,fun r row j u v g1 g2 g3=>?_⟩
 ·unfold A3m at hr;obtain⟨b,_,rfl⟩:=U3.1 hr;rfl
 ·unfold A3m at g1;rw[I9]at g1;cases hb:s[r]? with
  | none=>rw[hb]at g1;cases g1
  | some b =>
    rw[hb]at g1;simp only[P5,D3]at g1;subst g1;cases j with
    | zero =>
      simp at g2;subst g2;have g3:(P8 s)[0+r*1+0]? = some v:=by simpa using g3
      unfold P8 at g3;rw[I9,show 0+r*1+0=r by omega,hb]at g3;simp only[P5,D3]at g3;subst g3;exact .sc rfl
    | succ j=>simp at g2
theorem A7J{G:Nat→Option Obj}{wd n c:Nat}{a:Addr}{rows:List (List U)}(h:Enc G (.seq false wd rows) (.slice (some a) n c))(hG:∀ k ob,G k=some ob→w.heap[k]? = some ob) :
  n=rows.length∧∃ new',new'.length=rows.length*wd∧new'.all A0n=true∧O9 G rows wd ⟨new'⟩ 0∧∀ (j:Nat) (v':Value),new'[j]? = some v'→w.cell? (a.add j)=some v':=by
 cases h with
 | sc h=>cases h
 | emp=>exact⟨rfl,[],by simp,rfl,.nil,fun j v' h=>by simp at h⟩
 | sl hc hg hz hw hrow =>
   rename_i a o C T fz;refine⟨rfl,?_⟩;cases hr:rows with
   | nil=>exact⟨[],by simp,rfl,.nil,fun j v' h=>by simp at h⟩
   | cons r0 rr =>
     have hne:rows≠[]:=by rw[hr];simp
     rw[← hr];have hh:=hG _ _ (hg hne);have hz:=hz hne;have hlen:((C.toList.drop o).take (rows.length*wd)).length=rows.length*wd:=by simp;omega
     have hget:∀ j,j<rows.length*wd→((C.toList.drop o).take (rows.length*wd))[j]? = C[o+j]? := fun j hj=>by
      rw[F5 hj,H9];simp
     refine⟨_,hlen,?_,⟨hw,fun r row j u v g1 g2 g3=>?_⟩,fun j v' hj=>?_⟩
     ·refine E0.2 fun v hv=>?_
      obtain⟨j,hj,e⟩:=w8 hv;rw[hlen]at hj;have hv2:C[o+j]? = some v:=by rw[← hget j hj,A6 (by rw[hlen];exact hj),e]
      have hwd:0<wd:=by
       rcases U9 wd with h0|h0
       ·subst h0;omega
       ·exact h0
      have h1:j / wd<rows.length:=by rw[Nat.div_lt_iff_lt_mul hwd];exact hj
      have h2:(rows[j / wd]).length=wd:=hw _ (Q5 h1);have h3:j%wd<wd:=A52 _ hwd;refine A4U (hrow (j / wd) rows[j / wd] (j%wd) (rows[j / wd])[j%wd] v (A6 h1) (A6 (by rw[h2];exact h3)) ?_);have:o+j / wd*wd+j%wd=o+j:=by have:=Nat.div_add_mod j wd;rw[A0g]at this;omega
      rw[this];exact hv2
     ·have hq:0+r*wd+j<rows.length*wd:=by
       have hr1:=(A9.1 g1).1;have hj1:=(A9.1 g2).1;rw[hw _ (E1 g1)]at hj1;have h2:(r+1)*wd≤rows.length*wd:=F2 wd hr1;rw[H1]at h2;omega
      have g3:((C.toList.drop o).take (rows.length*wd))[0+r*wd+j]? = some v:=by simpa using g3
      rw[hget _ hq]at g3;exact hrow r row j u v g1 g2 (by rw[show o+r*wd+j=o+(0+r*wd+j) by omega];exact g3)
     ·have hjl:=(A9.1 hj).1;rw[hlen]at hjl;rw[hget j hjl]at hj;rw[J8.add_none'];simp[World.cell?,hh,hj]
structure B7p (P:Program) (ρ':Ren) (w:World) (wd:Nat) (bh:Beh) (gs:List Nat) (y':Value) (rows2:List (List U)) (new':List Value):Prop where
 len:∀ wd',(Builtin.lenOf y').run P wd'=.ok rows2.length wd'
 first:∀ wd':World,wd'.heap=w.heap→(Builtin.firstCells wd rows2.length y').run P wd'=.ok ⟨new'⟩ wd'
 size:new'.length=rows2.length*wd
 flat:new'.all A0n=true
 rows:∀ R,(∀ b ∈ gs,∀ l,ρ' b=some l→Sub l.G R)→O9 R rows2 wd ⟨new'⟩ 0
 ev:∀ c nul rows,Ora.env c=.seq nul wd rows→evU (A1Y wd (hole c (10+wd)) bh).1 ((A1Y wd (hole c (10+wd)) bh).2.map (F8 Ora.env))=A4X nul wd rows rows2
theorem B0z{R:Nat→Option Obj}{us:List U}{vs:List Value}(h:n8 R us vs):vs.all A0n=true:=by
 refine E0.2 fun v hv=>?_
 obtain⟨j,hj,e⟩:=w8 hv;have hu:j<us.length:=by rw[h.1];exact hj
 exact A4U (h.2 j us[j] v (A6 hu) (by rw[A6 hj,e]))
theorem B6k{td:Td}(htd:A9e P td){e:TypeId}{wd:Nat}{y y':Value}{bh:Beh}{gs:List Nat}{sure:Bool}(h:HR P base ρ m.H w)(ho:C0N td P m e wd y=some (bh,gs,sure,m'))(hf:K4 ρ m.n m'.hi)(hy:VR ρ y y')(hS:Sat m'.lg)(hwd:0<wd)(hsz:G7 P e=some wd) :
  ∃ ρ' rows2 new',St P base ρ ρ' m m' w w∧m.lg.le m'.lg∧y5 ρ m m'∧(∀ b ∈ gs,Hp.get m'.H b=some .frz∧∃ l,ρ' b=some l)∧B7p P ρ' w wd bh gs y' rows2 new'∧(sure=true→rows2≠[]):=by
 unfold C0N at ho;split at ho
 ·cases ho;cases Q3 hy;refine⟨ρ,[],[],St.refl h,.refl _,.refl,fun b hb=>(by cases hb),⟨fun _=>rfl,fun _ _=>rfl,by simp,rfl,fun R _=>.nil,fun c nul rows hc=>?_⟩,fun h=>by cases h⟩;show evU (.snoc wd) [Ora.env c]=_;rw[hc];show(if wd=wd∧wd≠0 then(match A0E wd (([]:List U).length / wd) []with|some r=>A4X nul wd rows r|none=>.none)else .none)=_;rw[if_pos ⟨rfl,by omega⟩,A4,Nat.zero_div];rfl
 ·rename_i a n c;split at ho
  ·rename_i cs ts hr hts;split at ho
   ·rename_i xs gs2 m2 hd;cases ho;have hnc:A11 m wd (.slice (some a) n c)=some (n,cs):=by simp only[A11,hr]
    obtain⟨f1,new',f2,f3⟩:=A7j h hnc hy;obtain⟨ρ2,e1,e2,e3,e4,e5,e6⟩:=A3K htd h hd hf f2 hS;have hlt:ts.length=wd:=by have:=A3L hts;rw[hsz]at this;exact(A8 this).symm
    have hul:(xs.map (F8 Ora.env)).length=n*wd:=by
     have:=congrArg List.length e5;rw[W1,A8n,hlt]at this;exact this
    obtain⟨rows2,hch⟩:=A5t (wd:=wd) n (xs.map (F8 Ora.env)) hul;obtain⟨g1,g2,g3,g4⟩:=A48 hch;refine⟨ρ2,rows2,new',e1,e2,e3,e4,⟨fun wd'=>by rw[g1];exact f1 wd',fun wd' hw'=>by rw[g1];exact f3 wd' hw',?_,?_,fun R hR=>A5I (e6 R hR) hch,fun c nul rows hc=>?_⟩,fun hs=>?_⟩
    ·have:=(e6 (fun k=>w.heap[k]?) (fun b hb l hl k o hk=>by
      obtain⟨q1,_⟩:=e4 b hb;exact(e1.hr.atl hl q1).1.2 k o hk)).1
     rw[← this,hul,g1]
    ·exact B0z (e6 (fun k=>w.heap[k]?) (fun b hb l hl k o hk=>by
      obtain⟨q1,_⟩:=e4 b hb;exact(e1.hr.atl hl q1).1.2 k o hk))
    ·show evU (.snoc wd) (Ora.env c::xs.map (F8 Ora.env))=_;rw[hc];show(if wd=wd∧wd≠0 then(match A0E wd ((xs.map (F8 Ora.env)).length / wd) (xs.map (F8 Ora.env))with|some r=>A4X nul wd rows r|none=>.none)else .none)=_;rw[if_pos ⟨rfl,by omega⟩,hul,A0G _ hwd,hch]
    ·have:0<n:=A1 hs;intro he;subst he;simp at g1;omega
   ·cases ho
  ·cases ho
 ·split at ho
  ·rename_i x b m2 hd;cases ho;obtain⟨ρ2,l,e1,e2,e3,e4,e5,e6,e7⟩:=htd.ok h hd hf hy hS;obtain⟨nul2,wd2,rows2,q1,q2⟩:=A2e e4 e5 (by omega);have hw2:wd2=wd:=by omega
   subst hw2;have hG:=(e1.hr.atl e2 e3).1.2;rw[q1]at e4;have hev:∀ c nul rows,Ora.env c=.seq nul wd2 rows→evU (A1Y wd2 (hole c (10+wd2)) (.rows x)).1 ((A1Y wd2 (hole c (10+wd2)) (.rows x)).2.map (F8 Ora.env))=A4X nul wd2 rows rows2:=fun c nul rows hc=>by
    show evU (.cat wd2) [Ora.env c,F8 Ora.env x]=_;rw[hc,q1];simp[evU]
   have hreg:∀ b' ∈ [b],Hp.get m'.H b'=some .frz∧∃ l,ρ2 b'=some l:=fun b' hb'=>by
    rcases C5.1 hb' with rfl|hb'
    ·exact⟨e3,l,e2⟩
    ·cases hb'
   rcases A0M e4 with⟨rfl,rfl,rfl⟩|⟨rfl,a,c,rfl,hc⟩
   ·exact⟨ρ2,[],[],e1,e6,e7,hreg,⟨fun _=>rfl,fun _ _=>rfl,by simp,rfl,fun R _=>.nil,hev⟩,fun h=>by cases h⟩
   ·obtain⟨_,new',g1,g2,g3,g4⟩:=A7J (w:=w) e4 hG;refine⟨ρ2,rows2,new',e1,e6,e7,hreg,⟨fun _=>rfl,fun wd' hw'=>?_,g1,g2,fun R hR=>g3.mono (hR b (.head _) l e2),hev⟩,fun h=>by cases h⟩;rw[show Builtin.firstCells wd2 rows2.length (.slice (some a) rows2.length c)=loadCells a (rows2.length*wd2)from rfl];exact A4J g1 fun j v' hj=>by rw[A0y hw'];exact g4 j v' hj
  ·cases ho
 ·obtain⟨h1,ho⟩:=A5 ho;obtain⟨h2,h3⟩:=B8 h1;have h4:=A2 h2;have h5:=A2 h3;cases ho;subst h5;obtain⟨s,rfl,f1⟩:=A02 hy h4;refine⟨ρ,A3m s,P8 s,St.refl h,.refl _,.refl,fun b hb=>(by cases hb),⟨fun _=>?_,fun wd' _=>?_,by simp[A3m,P8],?_,fun R _=>B24 s,fun c nul rows hc=>?_⟩,fun h=>by cases h⟩
  ·rw[A22];rfl
  ·rw[A22];have e:((ByteArray.extract ⟨⟨s⟩⟩ 0 s.length).data.map fun b=>Value.int .u8 b.toNat)=⟨P8 s⟩:=by
    rw[A2q];apply J1;simp[P8]
   show(pure ((ByteArray.extract ⟨⟨s⟩⟩ 0 s.length).data.map fun b=>Value.int .u8 b.toNat):Sem (Array Value)).run P wd'=_;rw[e];rfl
  ·refine E0.2 fun v hv=>?_
   unfold P8 at hv;obtain⟨b,_,rfl⟩:=U3.1 hv;rfl
  ·show evU .cats [Ora.env c,F8 Ora.env y]=_;rw[hc,f1];simp[evU]
end
end Go.Sx
namespace Go.Sx
set_option linter.all false
open Go
set_option linter.unusedVariables false
set_option linter.unusedSimpArgs false
variable [Ora]
section
variable {P:Program} {base:Nat} {ρ ρ':Ren} {m m':Mem} {w w':World}
theorem Sub.trans{A B C:Nat→Option Obj}(h:Sub A B)(k:Sub B C):Sub A C:=fun q o hq=>k q o (h q o hq)
structure C1J (P:Program) (base:Nat) (ρ:Ren) (m:Mem) (w:World) (e:TypeId) (wd c:Nat) (gs:List Nat) (old:Option Nat) (x':Value):Prop where
 ex:∃ nul rows,Ora.env c=.seq nul wd rows∧((nul=true∧rows=[]∧x'=.slice none 0 0∧(∀ b,old=some b→∃ ab l,b≤H3∧Hp.get m.H b=some ab∧ab.rw=true∧ρ b=some l∧l.on=false)) ∨
  (nul=false∧∃ b ab l cap C fz,old=some b∧b≤H3∧Hp.get m.H b=some ab∧ab.rw=true∧ρ b=some l∧l.on=true∧x'=.slice (some ⟨l.blk,l.sh,none⟩) rows.length cap∧w.heap[l.blk]? = some (.cells C e fz) ∧
    rows.length≤cap∧l.sh+cap*wd≤C.size∧(∀ i,i<C.size→¬ (fz.1≤i∧i<fz.2))∧∀ R,(∀ b ∈ gs,∀ l,ρ b=some l→Sub l.G R)→O9 R rows wd C l.sh))
theorem B4I{td:Td}(htd:A9e P td){e:TypeId}{wd c:Nat}{x x':Value}{gs:List Nat}{old:Option Nat}(h:HR P base ρ m.H w)(ho:B1B td P m e wd x=some (c,gs,old,m'))(hf:K4 ρ m.n m'.hi)(hx:VR ρ x x')(hS:Sat m'.lg)(hwd:0<wd)(hsz:G7 P e=some wd) :
  ∃ ρ',St P base ρ ρ' m m' w w∧m.lg.le m'.lg∧y5 ρ m m'∧C1J P base ρ' m' w e wd c gs old x':=by
 unfold B1B at ho;split at ho
 ·rw[S3]at ho;simp only[hole]at ho;cases ho;cases Q3 hx;obtain⟨e1,e2,_⟩:=A5L hS (.refl _);refine⟨ρ,St.wLg h _,m6,y5.lg _,⟨true,[],e1,.inl ⟨rfl,rfl,rfl,fun b hb=>by cases hb⟩⟩⟩
 ·rename_i b i tg;split at ho
  ·rename_i c0 tc T g hg;obtain⟨h1,ho⟩:=A5 ho;obtain⟨h1,h2⟩:=B8 h1;obtain⟨h1,h3⟩:=B8 h1;obtain⟨h2,h4⟩:=B8 h2;have h1:=A2 h1;have h3:=A2 h3;have h2:=A2 h2;have h4:=A1 h4;cases ho;subst h2;obtain⟨hown,htag⟩:=A2X hx;rcases hown with⟨l,wd1,g1,g2,g3,rfl⟩|⟨l,wd1,rows1,g1,g2,g3,g4,g40,rfl⟩
   ·obtain⟨wd2,inf,e1,e2,e3,e4⟩:=SqR.ex (h.atl g1 hg).1;rcases e4 with⟨_,e4⟩|⟨e4,_⟩
    ·have:wd2=wd:=by omega
     subst this;refine⟨ρ,St.refl h,.refl _,.refl,⟨true,[],e4,.inl ⟨rfl,rfl,rfl,fun b' hb'=>?_⟩⟩⟩;cases hb';exact⟨_,l,h4,hg,rfl,g1,g2⟩
    ·rw[g2]at e4;cases e4
   ·obtain⟨wd2,inf,e1,e2,e3,e4⟩:=SqR.ex (h.atl g1 hg).1;rcases e4 with⟨e4,_⟩|⟨_,e4⟩
    ·rw[g2]at e4;cases e4
    ·obtain⟨C,fz,T',rows,lg,f1,f2,f3,f4,f5,f6,f7,f8,f9⟩:=e4;have:wd2=wd:=by omega
     subst this;obtain⟨rfl,f10⟩:=f9 rfl;exact⟨ρ,St.refl h,.refl _,.refl,⟨false,rows,f2,.inr ⟨rfl,b,_,l,l.cap,C,fz,rfl,h4,hg,rfl,g1,g2,by rw[f3],f1,by omega,f5,f10,fun R hR=>⟨f6,fun r row j u v q1 q2 q3=>(f8 r row j u v q1 q2 q3).mono (hR g (.head _) lg f7)⟩⟩⟩⟩
  ·cases ho
 ·rename_i b n c0;split at ho
  ·rename_i cs T0 ro0 ts hg hts;obtain⟨hq,ho1⟩:=A5 ho;obtain⟨hq1,hq2⟩:=B8 hq;have h1:=A2 hq1;clear ho;split at ho1
   ·rename_i xs gs2 m1 hd;split at ho1
    ·rename_i cs1 T hg1;obtain⟨hq3,ho2⟩:=A5 ho1;clear ho1;obtain⟨hq3,h4⟩:=B8 hq3;have h3:=A2 hq3;have h4:=A1 h4;subst h3;rw[S3]at ho2;simp only[hole]at ho2;cases ho2;have hf1:K4 ρ m.n m1.hi:=by simpa using hf
     have hS1:Sat m1.lg:=U7.le hS m6;obtain⟨l,cap,hl,hcap,hcn,hx2⟩:∃ l cap,ρ b=some l∧n≤cap∧(cap=n∨cap=l.cap)∧x'=.slice (some ⟨l.blk,0+l.sh,none⟩) n cap:=by
      rcases(I5 _ _).mp hq2 with hc|hc
      ·obtain⟨hc1,hc2⟩:=B8 hc;have hc1:=A2 hc1;have hc2:c0<N3:=A1 hc2;rcases P1 hx with⟨l,hl,_,hlt,rfl⟩|⟨l,c',hl,_,hge,hnc,hcc,rfl⟩|⟨a',c',_,_,hc,_⟩
       ·exact⟨l,c0,hl,by omega,.inl hc1,rfl⟩
       ·omega
       ·omega
      ·have hc:=A2 hc;rcases P1 hx with⟨l,hl,_,hlt,rfl⟩|⟨l,c',hl,_,hge,hnc,hcc,rfl⟩|⟨a',c',_,_,hc2,_⟩
       ·omega
       ·exact⟨l,c',hl,hnc,.inr (hcc hc rfl),rfl⟩
       ·omega
     obtain⟨⟨hon,C,fz,T1,f1,f2,_⟩,_⟩:=h.atl hl hg;obtain⟨cs',f4,f5⟩:=A1i (ρ:=ρ) (C:=C) (cs:=cs) (s:=l.sh) f2;obtain⟨ρ1,e1,e2,e3,e4,e5,e6⟩:=A3K htd h hd hf1 f4 hS1;obtain⟨⟨_,C1,fz1,T2,g1,g2,g3⟩,_⟩:=e1.hr.atl (e1.ext _ _ hl) hg1;rw[f1]at g1;cases g1;obtain⟨rfl,g4,g5⟩:=g3 rfl;have hts2:=A3L hts;rw[hsz]at hts2;have hlt:ts.length=wd:=(A8 hts2).symm;have hul:(xs.map (F8 Ora.env)).length=n*wd:=by
      have:=congrArg List.length e5;rw[W1,A8n,hlt]at this;exact this
     obtain⟨rows,hch⟩:=A5t (wd:=wd) n (xs.map (F8 Ora.env)) hul;obtain⟨q1,q2,q3,q4⟩:=A48 hch;obtain⟨d1,d2,_⟩:=A5L hS (.refl _);have hc:Ora.env m1.lg.nx=.seq false wd rows:=by
      rw[d1];show(if wd=0 then U.none else match A0E wd ((xs.map (F8 Ora.env)).length / wd) (xs.map (F8 Ora.env))with|some r=>.seq false wd r|none=>.none)=_;rw[if_neg (by omega),hul,A0G _ hwd,hch]
     have hcl:cs'.length=n*wd:=by rw[← f4.1];exact h1
     obtain⟨inf,hinf,hisz⟩:∃ inf,P.info? T1=some inf∧inf.size=wd:=by
      unfold G7 at hsz;cases hi:P.info? T1 with
      | none=>rw[hi]at hsz;cases hsz
      | some inf=>rw[hi]at hsz;exact⟨inf,rfl,A8 hsz⟩
     have hroom:l.sh+cap*wd≤C.size:=by
      rcases hcn with rfl|rfl
      ·rcases U9 (cap*wd)with h0|h0
       ·rw[h0]
        have:=g5 inf hinf;rw[hisz]at this;omega
       ·have hlast:cap*wd-1<cs'.length:=by omega
        have:=f5 (cap*wd-1) cs'[cap*wd-1] (A6 hlast)
        have:=(D7.1 this).1;omega
      ·have:=g5 inf hinf;rw[hisz]at this;exact this.1
     have hst:=St.wLg e1.hr (A3c m1 (10+wd) (.mk wd) xs);refine⟨ρ1,St.trans (by simpa using hf) e1 hst,e2.trans m6,fun j lj hj hjg=>by rw[A5_];exact e3 j lj hj hjg,⟨false,rows,hc,.inr ⟨rfl,b,_,l,cap,C,fz,rfl,h4,by rw[A5_];exact hg1,rfl,e1.ext _ _ hl,hon,by rw[hx2,q1,F0],f1,by omega,hroom,g4,fun R hR=>?_⟩⟩⟩;obtain⟨r1,r2⟩:=A5I (e6 R hR) hch;refine⟨r1,fun r row j u v a1 a2 a3=>r2 r row j u v a1 a2 ?_⟩;have hq:r*wd+j<cs'.length:=by
      have hr1:=(A9.1 a1).1;have hj1:=(A9.1 a2).1;rw[r1 _ (E1 a1)]at hj1;have h2:(r+1)*wd≤rows.length*wd:=F2 wd hr1;rw[H1]at h2;rw[hcl,← q1];omega
     have:=f5 (r*wd+j) cs'[r*wd+j] (A6 hq);rw[show l.sh+r*wd+j=l.sh+(r*wd+j) by omega,this]at a3;have a3:=A8 a3;show(Array.mk cs')[0+r*wd+j]? = some v;rw[J3,show 0+r*wd+j=r*wd+j by omega,A6 hq,a3]
    ·cases ho1
   ·cases ho1
  ·cases ho
 ·cases ho
end
end Go.Sx
namespace Go.Sx
set_option linter.all false
open Go
set_option linter.unusedVariables false
set_option linter.unusedSimpArgs false
variable [Ora]
section
variable {P:Program} {base:Nat} {ρ ρ':Ren} {m m':Mem} {w w':World}
theorem O9.move{R:Nat→Option Obj}{rows:List (List U)}{wd o o':Nat}{C C':Array Value}(h:O9 R rows wd C o)(hc:∀ i,i<rows.length*wd→C'[o'+i]? = C[o+i]?):O9 R rows wd C' o':=by
 refine⟨h.1,fun r row j u v a1 a2 a3=>h.2 r row j u v a1 a2 ?_⟩;have hr1:=(A9.1 a1).1;have hj1:=(A9.1 a2).1;rw[h.1 _ (E1 a1)]at hj1;have h2:(r+1)*wd≤rows.length*wd:=F2 wd hr1;rw[H1]at h2
 have:=hc (r*wd+j) (by omega);rw[show o+r*wd+j=o+(r*wd+j) by omega,← this,show o'+(r*wd+j)=o'+r*wd+j by omega];exact a3
theorem O9.append{R:Nat→Option Obj}{rows rows2:List (List U)}{wd o:Nat}{C:Array Value}(h:O9 R rows wd C o)(k:O9 R rows2 wd C (o+rows.length*wd)):O9 R (rows++rows2) wd C o:=by
 refine⟨fun row hr=>(B5.1 hr).elim (h.1 row) (k.1 row),fun r row j u v a1 a2 a3=>?_⟩;rcases G1 r rows.length with hl|hl
 ·rw[E9 hl]at a1;exact h.2 r row j u v a1 a2 a3
 ·rw[E7 hl]at a1;refine k.2 (r-rows.length) row j u v a1 a2 ?_;have:rows.length*wd+(r-rows.length)*wd=r*wd:=by rw[← H1];congr 1;omega
  rw[show o+rows.length*wd+(r-rows.length)*wd+j=o+r*wd+j by omega];exact a3
theorem C6K{c t g cap sh wd:Nat}{T:TypeId}{inf:TypeInfo}{rows:List (List U)}{lg:Loc}{C:Array Value}{fz:Nat×Nat}{b:Nat}(hc:Ora.env c=.seq false wd rows)(ht:t=10+wd)(hi:P.info? T=some inf)(hs:inf.size=wd)(hcap:rows.length≤cap)(hroom:sh+cap*wd≤C.size)
  (hrows:O9 lg.G rows wd C sh) (hg:ρ g=some lg) (hw:w.heap[b]? = some (.cells C T fz)) (hfz:∀ i,i<C.size→¬ (fz.1≤i∧i<fz.2)):BR P ρ (.sq c t T g false) ⟨b,sh,cap,rows.length,fun _=>none,true⟩ w :=
 ⟨⟨wd,inf,ht,hi,hs,.inr ⟨rfl,C,fz,T,rows,lg,hw,hc,rfl,hcap,hroom,hrows.1,hg,hrows.2,fun _=>⟨rfl,hfz⟩⟩⟩⟩
theorem A1D{c t g cap wd:Nat}{T:TypeId}{inf:TypeInfo}{rows:List (List U)}{lg:Loc}{C:Array Value}{fz:Nat×Nat}{v:Value}(h:HR P base ρ m.H w)(hb:base≤w.heap.size)(hn:A0j m c t T g=some (v,m'))(hf:K4 ρ m.n m'.hi)
  (hc:Ora.env c=.seq false wd rows) (ht:t=10+wd) (hi:P.info? T=some inf) (hs:inf.size=wd) (hcap:rows.length≤cap) (hroom:cap*wd≤C.size) (hrows:O9 lg.G rows wd C 0) (hg:ρ g=some lg) (hfz:∀ i,i<C.size→¬ (fz.1≤i∧i<fz.2))
  (ho:w'.os=w.os∧w'.tape=w.tape∧w'.output=w.output) (hh:w'.heap=w.heap.push (.cells C T fz)):∃ ρ',VR ρ' v (.slice (some ⟨w.heap.size,0,none⟩) rows.length cap)∧St P base ρ ρ' m m' w w':=by
 have hfree:ρ m.n=none:=by
  obtain⟨_,_,rfl⟩:=M7 hn;exact hf m.n (A7 _) (L1 _ _).2
 obtain⟨rfl,e2,e3⟩:=St.alloc (w':=w') (l:=⟨w.heap.size,0,cap,rows.length,fun _=>none,true⟩) h hb hn hf ho hh rfl (C6K hc ht hi hs hcap (by omega) hrows (i6 hfree _ _ hg) (by rw[hh];simp) hfz);exact⟨_,.own (.inr ⟨_,wd,rows,e2,rfl,hc,rfl,hcap,rfl⟩) (by rw[hc];exact ht.symm) rfl,e3⟩
theorem A5i{c t g cap sh wd id:Nat}{T:TypeId}{inf:TypeInfo}{ab:AB}{l:Loc}{rows:List (List U)}{lg:Loc}{C:Array Value}{fz:Nat×Nat}{v:Value}(h:HR P base ρ m.H w)(hle:id≤H3)(hgt:Hp.get m.H id=some ab)(hrw:ab.rw=true)(hl:ρ id=some l)(hon:l.on=true)
  (hn:A0j (A3o m id) c t T g=some (v,m')) (hf:K4 ρ m.n m'.hi)
  (hc:Ora.env c=.seq false wd rows) (ht:t=10+wd) (hi:P.info? T=some inf) (hs:inf.size=wd) (hcap:rows.length≤cap) (hroom:sh+cap*wd≤C.size) (hrows:O9 lg.G rows wd C sh) (hg:ρ g=some lg) (hfz:∀ i,i<C.size→¬ (fz.1≤i∧i<fz.2))
  (ho:w'.os=w.os∧w'.tape=w.tape∧w'.output=w.output) (hsz:w'.heap.size=w.heap.size) (hk:∀ k,k≠l.blk→w'.heap[k]? = w.heap[k]?) (hw:w'.heap[l.blk]? = some (.cells C T fz)) :
  ∃ ρ',VR ρ' v (.slice (some ⟨l.blk,sh,none⟩) rows.length cap)∧St P base ρ ρ' m m' w w':=by
 have hfree:ρ m.n=none:=by
  have hn2:=hn;unfold A0j at hn2;rw[x7]at hn2;obtain⟨_,_,rfl⟩:=M7 hn2;exact hf m.n (A7 _) (L1 _ _).2
 obtain⟨rfl,e2,e3⟩:=St.move (w':=w') (l':=⟨l.blk,sh,cap,rows.length,fun _=>none,true⟩) h hle hgt hrw hl hn hf (fun _=>⟨hon,rfl⟩) ho hsz (fun k hk'=>hk k (hk' hon)) (C6K hc ht hi hs hcap hroom hrows (i6 hfree _ _ hg) hw hfz) (fun h=>by cases h);exact⟨_,.own (.inr ⟨_,wd,rows,e2,rfl,hc,rfl,hcap,rfl⟩) (by rw[hc];exact ht.symm) rfl,e3⟩
def C5c:Loc:=⟨0,0,0,0,fun _=>none,false⟩
theorem B0d{c t g wd:Nat}{T:TypeId}{inf:TypeInfo}{old:Option Nat}{v:Value}(h:HR P base ρ m.H w)(hold:∀ b,old=some b→∃ ab l,b≤H3∧Hp.get m.H b=some ab∧ab.rw=true∧ρ b=some l∧l.on=false)
  (hn:A0j (A3n old m) c t T g=some (v,m')) (hf:K4 ρ m.n m'.hi) (hc:Ora.env c=.seq true wd []) (ht:t=10+wd) (hi:P.info? T=some inf) (hs:inf.size=wd):∃ ρ',VR ρ' v (.slice none 0 0)∧St P base ρ ρ' m m' w w:=by
 have hbr:∀ ρ':Ren,BR P ρ' (.sq c t T g false) C5c w:=fun ρ'=>⟨⟨wd,inf,ht,hi,hs,.inl ⟨rfl,hc⟩⟩⟩
 cases old with
 | none =>
   obtain⟨rfl,e2,e3⟩:=St.new0 (l':=C5c) h hn hf (hbr _) rfl fun q hq=>by
    rcases hq with⟨_,hq,_⟩|⟨hq,_⟩<;>cases hq
   exact⟨_,.own (.inl ⟨_,wd,e2,rfl,hc,rfl⟩) (by rw[hc];exact ht.symm) rfl,e3⟩
 | some b =>
   obtain⟨ab,l,h1,h2,h3,h4,h5⟩:=hold b rfl;obtain⟨rfl,e2,e3⟩:=St.move (w':=w) (l':=C5c) h h1 h2 h3 h4 hn hf (fun h=>by cases h) ⟨rfl,rfl,rfl⟩ rfl (fun _ _=>rfl) (hbr _) (fun h=>by cases h);exact⟨_,.own (.inl ⟨_,wd,e2,rfl,hc,rfl⟩) (by rw[hc];exact ht.symm) rfl,e3⟩
theorem A7B{gs:List Nat}{g:Nat}(h:HR P base ρ m.H w)(ho:A3p gs m=some (g,m'))(hf:K4 ρ m.n m'.hi){j:Nat}{l:Loc}(hj:ρ j=some l):Hp.get m'.H j=Hp.get m.H j:=by
 have main:∀ {gs:List Nat},(bif gs.all (A5m m)then match A2o m fun b m=>some (undef,b,m)with
  | some (_,b,m)=>some (b,m)
  | none=>none else none)=some (g,m')→Hp.get m'.H j=Hp.get m.H j:=fun{gs} ho=>by
  obtain⟨h1,ho⟩:=A5 ho;split at ho
  ·rename_i r b m1 hn;cases ho;obtain⟨m2,q1,q2,_⟩:=S2 hn;cases q2;rw[A4D q1 (h.dom j l hj),if_neg];intro e;subst e;obtain⟨_,_,rfl⟩:=M7 q1;rw[hf m.n (A7 _) (L1 _ _).2]at hj;cases hj
  ·cases ho
 unfold A3p at ho;split at ho
 ·obtain⟨h1,ho⟩:=A5 ho;cases ho;rfl
 ·exact main ho
theorem N4{gs:List Nat}{g:Nat}(ho:A3p gs m=some (g,m')):m.hi≤m'.hi∧m'.lg=m.lg∧m.n≤m'.n:=by
 have main:∀ {gs:List Nat},(bif gs.all (A5m m)then match A2o m fun b m=>some (undef,b,m)with
  | some (_,b,m)=>some (b,m)
  | none=>none else none)=some (g,m')→m.hi≤m'.hi∧m'.lg=m.lg∧m.n≤m'.n:=fun{gs} ho=>by
  obtain⟨h1,ho⟩:=A5 ho;split at ho
  ·rename_i r b m1 hn;cases ho;obtain⟨m2,q1,q2,_⟩:=S2 hn;cases q2;obtain⟨_,_,rfl⟩:=M7 q1;exact⟨(L1 _ _).1,rfl,A0N _⟩
  ·cases ho
 unfold A3p at ho;split at ho
 ·obtain⟨h1,ho⟩:=A5 ho;cases ho;exact⟨A7 _,rfl,A7 _⟩
 ·exact main ho
def C7O(nul:Bool)(wd:Nat)(rows:List (List U)):List (List U)→U
 | []=>.seq nul wd rows
 | r0::r=>.seq false wd (rows++r0::r)
theorem B37{nul:Bool}{wd:Nat}{rows rows2:List (List U)}(h:∃ n w r,A4X nul wd rows rows2=.seq n w r):rows.length+rows2.length≤A7O∧A4X nul wd rows rows2=C7O nul wd rows rows2:=by
 by_cases hc:rows.length+rows2.length≤A7O
 ·refine⟨hc,?_⟩;unfold A4X;rw[if_pos hc];cases rows2<;>rfl
 ·unfold A4X at h;rw[if_neg hc]at h;obtain⟨_,_,_,h⟩:=h;cases h
theorem B5p{t t2 e ty:TypeId}{d2:TypeDesc}{inf:TypeInfo}{z:Value}{c:Nat}{old:Option Nat}{bh:Beh}{g0 gs:List Nat}{x' y' v:Value}{rows2:List (List U)}{new':List Value}
  (hu:P.underlying t=some (.slice e)) (hu2:P.underlying t2=some d2) (hd2:A1U d2=true) (hi:P.info? e=some inf) (hz:A2t P e=some z) (hzs:z.cells.size=inf.size) (hby:inf.bytes≤90000)
  (h:HR P base ρ m.H w) (hb:base≤w.heap.size) (ho:B3C m e inf.size c old bh (g0++gs)=some (v,m')) (hf:K4 ρ m.n m'.hi) (hS:Sat m'.lg)
  (hbase:C1J P base ρ m w e inf.size c g0 old x') (hbeh:B7p P ρ w inf.size bh gs y' rows2 new'):VOk P base ρ m w (Builtin.append_ #[t,t2] ty #[x',y']) v m':=by
 unfold B3C at ho;split at ho
 ·rename_i g m1 hj;rw[S3]at ho;have hmono:=N4 hj;generalize hlg:A3c m1 (10+inf.size) (A1Y inf.size (hole c (10+inf.size)) bh).1 (A1Y inf.size (hole c (10+inf.size)) bh).2=lg1 at ho;have hn2:m'.lg=lg1∧m1.hi≤m'.hi∧m1.n≤m'.n:=by
   unfold A0j at ho;cases old with
   | none =>
     simp only[A3n]at ho;obtain⟨_,_,rfl⟩:=M7 ho;exact⟨by simp,by simpa using(L1 m1.hi m1.n).1,by simp⟩
   | some b =>
     simp only[A3n,x7]at ho;obtain⟨_,_,rfl⟩:=M7 ho;exact⟨by simp,by simpa using(L1 m1.hi m1.n).1,by simp⟩
  have hf1:K4 ρ m.n m1.hi:=hf.less hn2.2.1;obtain⟨ρ1,lg,e1,e2,e3,e4,e5,e6⟩:=A15 h hj hf1;have hst1:St P base ρ ρ1 m (m1.wLg lg1) w w:=St.trans (by simpa using hf1) e1 (St.wLg e1.hr lg1);have hf2:K4 ρ1 (m1.wLg lg1).n m'.hi:=by simpa using hf.step e1
  have hS1:Sat (m1.wLg lg1).lg:=by simpa [← hn2.1]using hS
  obtain⟨nul,rows,hc,hx⟩:=hbase.ex;obtain⟨d1,d2,nx,wd2,rws,d3,d4⟩:=A5L (m:=m1) (t:=10+inf.size) (op:=(A1Y inf.size (hole c (10+inf.size)) bh).1) (xs:=(A1Y inf.size (hole c (10+inf.size)) bh).2) (lg:=lg1) (by simpa using hS1) (by rw[u7,hlg];exact .refl _);rw[hbeh.ev c nul rows hc]at d1;obtain⟨hbig,hcat⟩:=B37 ⟨nx,wd2,rws,d1.symm.trans d3⟩;rw[hcat]at d1;have hR1:∀ b ∈ g0,∀ l,ρ b=some l→Sub l.G lg.G:=fun b hb' l hl=>e6 b (B5.2 (.inl hb')) l hl
  have hR2:∀ b ∈ gs,∀ l,ρ b=some l→Sub l.G lg.G:=fun b hb' l hl=>e6 b (B5.2 (.inr hb')) l hl
  have hr2:=hbeh.rows lg.G hR2;have hfin:∀ {v':Value} {ρ2:Ren} {w2:World},(Builtin.append_ #[t,t2] ty #[x',y']).run P w=.ok v' w2→VR ρ2 v v'→St P base ρ1 ρ2 (m1.wLg lg1) m' w w2→VOk P base ρ m w (Builtin.append_ #[t,t2] ty #[x',y']) v m':=fun hr hv hs =>
   ⟨_,_,_,hr,hv,St.trans hf hst1 hs⟩
  have hzr:∀ w,(zeroValue e).run P w=.ok z w:=fun w=>A0_ hz w
  have hget:∀ {j l},ρ j=some l→Hp.get (m1.wLg lg1).H j=Hp.get m.H j:=fun hj'=>by rw[A5_];exact A7B h hj hf1 hj'
  have hroomB:(3*(rows.length+rows2.length)+4000)*inf.bytes≤281474976710656:=by
   have h1:3*(rows.length+rows2.length)+4000≤3000004000:=by unfold A7O at hbig;omega
   have h2:=A4e h1 hby;omega
  have hbig2:rows.length+rows2.length≤1000000000:=hbig;rcases hx with⟨rfl,rfl,rfl,hold⟩|⟨rfl,b,ab,l,cap,C,fz,rfl,hbm,hbg,hbrw,hbl,hon,rfl,hheap,hcap,hroom,hnfz,hrws⟩
  ·
   have hold1:∀ b,old=some b→∃ ab l,b≤H3∧Hp.get (m1.wLg lg1).H b=some ab∧ab.rw=true∧ρ1 b=some l∧l.on=false:=fun b hb'=>by
    obtain⟨ab,l,q1,q2,q3,q4,q5⟩:=hold b hb';exact⟨ab,l,q1,by rw[hget q4];exact q2,q3,e1.ext _ _ q4,q5⟩
   cases hrow2:rows2 with
   | nil =>
     subst hrow2;have hc2:Ora.env m1.lg.nx=.seq true inf.size []:=d1;obtain⟨ρ2,q1,q2⟩:=B0d hst1.hr hold1 ho hf2 hc2 rfl hi rfl;have hn0:new'=[]:=G0.1 (by rw[hbeh.size];simp);exact hfin (A7Z hu hu2 hd2 hi (fun wd=>hbeh.len wd) (by have:=hbeh.first w rfl;rw[hn0]at this;exact this)) q1 q2
   | cons r0 rr =>
     rw[hrow2]at d1;have hc2:Ora.env m1.lg.nx=.seq false inf.size rows2:=by rw[hrow2];exact d1
     obtain⟨nc,hnc,hrun⟩:=A21 (P:=P) (w:=w) (ty:=ty) (a:=none) (n:=0) (c:=0) (k:=rows2.length) (old':=[]) (new':=new') (x':=y') hu hu2 hd2 hi hzr (fun wd=>hbeh.len wd) (fun _ _=>rfl) (fun wd hw=>hbeh.first wd hw) (by rw[hrow2];simp) (by simpa using hroomB) (by simpa using hbig2);obtain⟨m2,hn3,st2⟩:∃ m2,A0j m2 m1.lg.nx (10+inf.size) e g=some (v,m')∧St P base ρ1 ρ1 (m1.wLg lg1) m2 w w:=by
      cases old with
      | none=>exact⟨_,ho,St.refl hst1.hr⟩
      | some b =>
        obtain⟨ab,l,q1,q2,q3,q4,q5⟩:=hold1 b rfl;exact⟨_,ho,St.kill hst1.hr q1 q2 q3⟩
     obtain⟨ρ2,q1,q2⟩:=A1D (w':={ w.drew with heap:=w.heap.push (.cells (({ toList:=[] }:Array Value)++⟨new'⟩++Builtin.zeroCells z.cells (nc-(0+rows2.length))) e (0,0)) }) (cap:=nc) st2.hr hb hn3 (hf2.step st2) hc2 rfl hi rfl (by omega)
      (by have:=A1l (s:=inf.size) (k:=rows2.length) (n:=0) (nc:=nc) (z:=z) (old':=[]) hbeh.size hnc hzs (by simp);exact this)
      (hr2.move (C':=({ toList:=[] }:Array Value)++⟨new'⟩++Builtin.zeroCells z.cells (nc-(0+rows2.length))) (o':=0) fun i hi'=>by
        have hil:i<new'.length:=by rw[hbeh.size];exact hi'
        rw[F0 i];rw[B3n (A6 hil)];simp[hil]) (st2.ext _ _ e4) (fun i _ hh=>by have h1:0≤i:=hh.1;have h2:i<0:=hh.2;omega) ⟨rfl,rfl,rfl⟩ rfl
     exact hfin hrun (by rw[F0];exact q1) (St.trans hf2 st2 q2)
  ·
   have hg1:Hp.get (m1.wLg lg1).H b=some ab:=by rw[hget hbl];exact hbg
   have hrows1:=hrws lg.G hR1;have hbl1:=e1.ext _ _ hbl;cases hrow2:rows2 with
   | nil =>
     subst hrow2;have hc2:Ora.env m1.lg.nx=.seq false inf.size rows:=d1;have hn0:new'=[]:=G0.1 (by rw[hbeh.size];simp);obtain⟨ρ2,q1,q2⟩:=A5i (w':=w) (cap:=cap) (sh:=l.sh) hst1.hr hbm hg1 hbrw hbl1 hon ho hf2 hc2 rfl hi rfl hcap hroom hrows1 e4 hnfz ⟨rfl,rfl,rfl⟩ rfl (fun _ _=>rfl) hheap;have hrun:=A4k (P:=P) (w:=w) (w':=w) (ty:=ty) (a:=⟨l.blk,l.sh,none⟩) (n:=rows.length) (k:=0) (c:=cap) (new':=new') hu hu2 hd2 hi (fun wd=>hbeh.len wd) (hbeh.first w rfl) (by omega) (by rw[hn0];rfl);exact hfin hrun q1 q2
   | cons r0 rr =>
     have hc2:Ora.env m1.lg.nx=.seq false inf.size (rows++rows2):=by rw[hrow2]at d1 ⊢;exact d1
     by_cases hfit:rows.length+rows2.length≤cap
     ·have hsum:(rows.length+rows2.length)*inf.size≤cap*inf.size:=F2 _ hfit;rw[H1]at hsum;obtain⟨w',r1,r2,r3,r4,r5⟩:=n9 (P:=P) (b:=l.blk) (o:=rows.length*inf.size+l.sh) (fz:=fz) new' 0 C w hheap hbeh.flat (by rw[hbeh.size];omega) hnfz;have hadd:(Addr.mk l.blk l.sh none).add (rows.length*inf.size)=⟨l.blk,rows.length*inf.size+l.sh,none⟩:=by
       unfold Addr.add;split
       ·rename_i h0;rw[h0];simp
       ·simp[A3j]
      have hrun:=A4k (P:=P) (w:=w) (w':=w') (ty:=ty) (a:=⟨l.blk,l.sh,none⟩) (n:=rows.length) (k:=rows2.length) (c:=cap) (new':=new') hu hu2 hd2 hi (fun wd=>hbeh.len wd) (hbeh.first w rfl) hfit (by rw[hadd];exact r1);have hlenC:(Array.mk (A1B C.toList (rows.length*inf.size+l.sh+0) new')).size=C.size:=by simp[o8]
      have hg2:∀ j,(Array.mk (A1B C.toList (rows.length*inf.size+l.sh+0) new'))[j]? = if rows.length*inf.size+l.sh≤j∧j<rows.length*inf.size+l.sh+new'.length then new'[j-(rows.length*inf.size+l.sh)]? else C[j]? := fun j=>by
       rw[J3,A4A _ _ _ _ (by simp;rw[hbeh.size];omega)];simp
      obtain⟨ρ2,q1,q2⟩:=A5i (w':=w') (cap:=cap) (sh:=l.sh) (C:=⟨A1B C.toList (rows.length*inf.size+l.sh+0) new'⟩) hst1.hr hbm hg1 hbrw hbl1 hon ho hf2 hc2 rfl hi rfl (by simpa using hfit) (by rw[hlenC];exact hroom)
       (O9.append (hrows1.move (o':=l.sh) fun i hi'=>by rw[hg2,if_neg (by omega)]) (hr2.move (o':=l.sh+rows.length*inf.size) fun i hi'=>by
         rw[hg2,if_pos (by rw[hbeh.size];omega),show l.sh+rows.length*inf.size+i-(rows.length*inf.size+l.sh)=i by omega,F0];simp)) e4 (by rw[hlenC];exact hnfz) r2 r3 r5 r4
      rw[A0]at q1;exact hfin hrun q1 q2
     ·have hold:∃ old',old'.length=rows.length*inf.size∧(∀ i,i<rows.length*inf.size→old'[i]? = C[l.sh+i]?)∧∀ wd:World,wd.heap=w.heap→(Builtin.firstCells inf.size rows.length (.slice (some ⟨l.blk,l.sh,none⟩) rows.length cap)).run P wd=.ok ⟨old'⟩ wd:=by
       have hsum:rows.length*inf.size≤cap*inf.size:=F2 _ hcap;have hlen:((C.toList.drop l.sh).take (rows.length*inf.size)).length=rows.length*inf.size:=by simp;omega
       refine⟨(C.toList.drop l.sh).take (rows.length*inf.size),hlen,fun i hi'=>?_,fun wd hw=>?_⟩
       ·rw[F5 hi',H9];simp
       ·rw[show Builtin.firstCells inf.size rows.length (.slice (some ⟨l.blk,l.sh,none⟩) rows.length cap)=loadCells ⟨l.blk,l.sh,none⟩ (rows.length*inf.size)from rfl];refine J8 hlen fun j v' hj=>?_
        have hjl:=(A9.1 hj).1;rw[hlen]at hjl;rw[F5 hjl,H9]at hj;rw[A0y hw];have hj2:C[l.sh+j]? = some v':=by simpa using hj
        simp[World.cell?,hheap,hj2]
      obtain⟨old',o1,o2,o3⟩:=hold;obtain⟨nc,hnc,hrun⟩:=A21 (P:=P) (w:=w) (ty:=ty) (a:=some ⟨l.blk,l.sh,none⟩) (n:=rows.length) (c:=cap) (k:=rows2.length) (old':=old') (new':=new') (x':=y') hu hu2 hd2 hi hzr (fun wd=>hbeh.len wd) o3 (fun wd hw=>hbeh.first wd hw) hfit hroomB hbig2;have hkill:=St.kill hst1.hr hbm hg1 hbrw;obtain⟨ρ2,q1,q2⟩:=A1D (w':={ w.drew with heap:=w.heap.push (.cells (({ toList:=old' }:Array Value)++⟨new'⟩++Builtin.zeroCells z.cells (nc-(rows.length+rows2.length))) e (0,0)) }) (cap:=nc) hkill.hr hb ho (hf2.step hkill) hc2 rfl hi rfl (by simpa using hnc)
       (A1l hbeh.size hnc hzs o1)
       (O9.append (hrows1.move (C':=({ toList:=old' }:Array Value)++⟨new'⟩++Builtin.zeroCells z.cells (nc-(rows.length+rows2.length))) (o':=0) fun i hi'=>by
         have hl1:i<old'.length:=by rw[o1];exact hi'
         rw[F0 i,← o2 i hi',A1m (u:=old'[i]) (by rw[E9 hl1,A6 hl1]),A6 hl1]) (hr2.move (o':=0+rows.length*inf.size) fun i hi'=>by
         have hl1:i<new'.length:=by rw[hbeh.size];exact hi'
         rw[F0 (rows.length*inf.size),F0 i,A1m (u:=new'[i]) (by rw[E7 (by rw[o1];omega),o1,Y2,A6 hl1])];simp[hl1])) (hkill.ext _ _ e4) (fun i _ hh=>by have h1:0≤i:=hh.1;have h2:i<0:=hh.2;omega) ⟨rfl,rfl,rfl⟩ rfl
      rw[A0]at q1;exact hfin hrun q1 (St.trans hf2 hkill q2)
 ·cases ho
end
end Go.Sx
namespace Go.Sx
set_option linter.all false
open Go
set_option linter.unusedVariables false
set_option linter.unusedSimpArgs false
variable [Ora]
section
variable {P:Program} {base:Nat} {ρ ρ':Ren} {m m':Mem} {w w':World}
theorem C1g{t t2 e ty:TypeId}{d2:TypeDesc}{inf:TypeInfo}{z:Value}{c b:Nat}{a:Addr}{bh:Beh}{gs:List Nat}{l:Loc}{y' v:Value}{rows rows2:List (List U)}{new':List Value}
  (hu:P.underlying t=some (.slice e)) (hu2:P.underlying t2=some d2) (hd2:A1U d2=true) (hi:P.info? e=some inf) (hz:A2t P e=some z) (hzs:z.cells.size=inf.size) (hby:inf.bytes≤90000)
  (h:HR P base ρ m.H w) (hb:base≤w.heap.size) (ho:B3C m e inf.size c none bh (b::gs)=some (v,m')) (hf:K4 ρ m.n m'.hi) (hS:Sat m'.lg)
  (hc:Ora.env c=.seq false inf.size rows) (hl:ρ b=some l) (henc:Enc l.G (Ora.env c) (.slice (some a) rows.length rows.length)) (hbeh:B7p P ρ w inf.size bh gs y' rows2 new') (hsure:rows2≠[]) :
  VOk P base ρ m w (Builtin.append_ #[t,t2] ty #[.slice (some a) rows.length rows.length,y']) v m':=by
 unfold B3C at ho;split at ho
 ·rename_i g m1 hj;rw[S3]at ho;have hmono:=N4 hj;generalize hlg:A3c m1 (10+inf.size) (A1Y inf.size (hole c (10+inf.size)) bh).1 (A1Y inf.size (hole c (10+inf.size)) bh).2=lg1 at ho;have ho:A0j (m1.wLg lg1) m1.lg.nx (10+inf.size) e g=some (v,m'):=ho;have hn2:m'.lg=lg1∧m1.hi≤m'.hi∧m1.n≤m'.n:=by
   unfold A0j at ho;obtain⟨_,_,rfl⟩:=M7 ho;exact⟨by simp,by simpa using(L1 m1.hi m1.n).1,by simp⟩
  have hf1:K4 ρ m.n m1.hi:=hf.less hn2.2.1;obtain⟨ρ1,lg,e1,e2,e3,e4,e5,e6⟩:=A15 h hj hf1;have hst1:St P base ρ ρ1 m (m1.wLg lg1) w w:=St.trans (by simpa using hf1) e1 (St.wLg e1.hr lg1);have hf2:K4 ρ1 (m1.wLg lg1).n m'.hi:=by simpa using hf.step e1
  have hS1:Sat (m1.wLg lg1).lg:=by simpa [← hn2.1]using hS
  obtain⟨d1,d2,nx,wd2,rws,d3,d4⟩:=A5L (m:=m1) (t:=10+inf.size) (op:=(A1Y inf.size (hole c (10+inf.size)) bh).1) (xs:=(A1Y inf.size (hole c (10+inf.size)) bh).2) (lg:=lg1) (by simpa using hS1) (by rw[u7,hlg];exact .refl _);rw[hbeh.ev c false rows hc]at d1;obtain⟨hbig,hcat⟩:=B37 ⟨nx,wd2,rws,d1.symm.trans d3⟩;rw[hcat]at d1;have hR1:Sub l.G lg.G:=e6 b (.head _) l hl;have hR2:∀ b ∈ gs,∀ l,ρ b=some l→Sub l.G lg.G:=fun b hb' l hl=>e6 b (.tail _ hb') l hl
  have hr2:=hbeh.rows lg.G hR2;have hzr:∀ w,(zeroValue e).run P w=.ok z w:=fun w=>A0_ hz w
  have hroomB:(3*(rows.length+rows2.length)+4000)*inf.bytes≤281474976710656:=by
   have h1:3*(rows.length+rows2.length)+4000≤3000004000:=by unfold A7O at hbig;omega
   have h2:=A4e h1 hby;omega
  have hbig2:rows.length+rows2.length≤1000000000:=hbig;have hpos:0<rows2.length:=List.length_pos_iff.2 hsure;have hc2:Ora.env m1.lg.nx=.seq false inf.size (rows++rows2):=by
   cases rows2 with
   | nil=>exact absurd rfl hsure
   | cons r0 rr=>exact d1
  rw[hc]at henc;obtain⟨_,old',o1,o2,o3,o4⟩:=A7J (w:=w) (henc.mono hR1) ((e1.hr.atl e4 e5).1.2);have o5:∀ wd:World,wd.heap=w.heap→(Builtin.firstCells inf.size rows.length (.slice (some a) rows.length rows.length)).run P wd=.ok ⟨old'⟩ wd:=fun wd hw=>by
   rw[show Builtin.firstCells inf.size rows.length (.slice (some a) rows.length rows.length)=loadCells a (rows.length*inf.size)from rfl];exact A4J o1 fun j v' hj=>by rw[A0y hw];exact o4 j v' hj
  obtain⟨nc,hnc,hrun⟩:=A21 (P:=P) (w:=w) (ty:=ty) (a:=some a) (n:=rows.length) (c:=rows.length) (k:=rows2.length) (old':=old') (new':=new') (x':=y') hu hu2 hd2 hi hzr (fun wd=>hbeh.len wd) o5 (fun wd hw=>hbeh.first wd hw) (by omega) hroomB hbig2;obtain⟨ρ2,q1,q2⟩:=A1D (w':={ w.drew with heap:=w.heap.push (.cells (({ toList:=old' }:Array Value)++⟨new'⟩++Builtin.zeroCells z.cells (nc-(rows.length+rows2.length))) e (0,0)) }) (cap:=nc) hst1.hr hb ho hf2 hc2 rfl hi rfl (by simpa using hnc)
   (A1l hbeh.size hnc hzs o1)
   (O9.append (o3.move (C':=({ toList:=old' }:Array Value)++⟨new'⟩++Builtin.zeroCells z.cells (nc-(rows.length+rows2.length))) (o':=0) fun i hi'=>by
     have hl1:i<old'.length:=by rw[o1];exact hi'
     rw[F0 i,A1m (u:=old'[i]) (by rw[E9 hl1,A6 hl1])];simp[hl1]) (hr2.move (o':=0+rows.length*inf.size) fun i hi'=>by
     have hl1:i<new'.length:=by rw[hbeh.size];exact hi'
     rw[F0 (rows.length*inf.size),F0 i,A1m (u:=new'[i]) (by rw[E7 (by rw[o1];omega),o1,Y2,A6 hl1])];simp[hl1])) e4 (fun i _ hh=>by have h1:0≤i:=hh.1;have h2:i<0:=hh.2;omega) ⟨rfl,rfl,rfl⟩ rfl
  rw[A0]at q1;exact⟨_,_,_,hrun,q1,St.trans hf hst1 q2⟩
 ·cases ho
theorem B7i{td:Td}(htd:A9e P td){e:TypeId}{wd:Nat}{y:Value}{bh:Beh}{gs:List Nat}{sure:Bool}(ho:C0N td P m e wd y=some (bh,gs,sure,m')):m.hi≤m'.hi∧m.lg.le m'.lg∧m.n≤m'.n:=by
 unfold C0N at ho;split at ho
 ·cases ho;exact⟨A7 _,.refl _,A7 _⟩
 ·split at ho
  ·split at ho
   ·rename_i hd;cases ho;exact U6 htd hd
   ·cases ho
  ·cases ho
 ·split at ho
  ·rename_i hd;cases ho;exact htd.mono hd
  ·cases ho
 ·obtain⟨h1,ho⟩:=A5 ho;cases ho;exact⟨A7 _,.refl _,A7 _⟩
theorem A3f{td:Td}(htd:A9e P td){e:TypeId}{wd c:Nat}{x:Value}{gs:List Nat}{old:Option Nat}(ho:B1B td P m e wd x=some (c,gs,old,m')):m.hi≤m'.hi∧m.lg.le m'.lg∧m.n≤m'.n:=by
 unfold B1B at ho;split at ho
 ·rw[S3]at ho;simp only[hole]at ho;cases ho;exact⟨by simp,m6,by simp⟩
 ·split at ho
  ·obtain⟨h1,ho⟩:=A5 ho;cases ho;exact⟨A7 _,.refl _,A7 _⟩
  ·cases ho
 ·split at ho
  ·obtain⟨h1,ho⟩:=A5 ho;split at ho
   ·rename_i hd;split at ho
    ·obtain⟨h1,ho⟩:=A5 ho;rw[S3]at ho;simp only[hole]at ho;cases ho
     have:=U6 htd hd;exact⟨by simpa using this.1,this.2.1.trans m6,by simpa using this.2.2⟩
    ·cases ho
   ·cases ho
  ·cases ho
 ·cases ho
theorem A0B{c t g:Nat}{T:TypeId}{v:Value}(h:A0j m c t T g=some (v,m')):m.hi≤m'.hi∧m'.lg=m.lg∧m.n≤m'.n:=by
 unfold A0j at h;obtain⟨_,_,rfl⟩:=M7 h;exact⟨(L1 _ _).1,rfl,A0N _⟩
theorem A0v(old:Option Nat)(m:Mem):(A3n old m).hi=m.hi∧(A3n old m).lg=m.lg∧(A3n old m).n=m.n:=by
 cases old with
 | none=>exact⟨rfl,rfl,rfl⟩
 | some b=>simp[A3n,x7]
theorem A4m{e:TypeId}{wd c:Nat}{old:Option Nat}{bh:Beh}{gs:List Nat}{v:Value}(ho:B3C m e wd c old bh gs=some (v,m')):m.hi≤m'.hi∧m.lg.le m'.lg∧m.n≤m'.n:=by
 unfold B3C at ho;split at ho
 ·rename_i g m1 hj;rw[S3]at ho;have a:=N4 hj;have b:=A0B ho;obtain⟨k1,k2,k3⟩:=A0v old (m1.wLg (A3c m1 (10+wd) (A1Y wd (hole c (10+wd)) bh).1 (A1Y wd (hole c (10+wd)) bh).2));refine⟨?_,?_,?_⟩
  ·have:=b.1;rw[k1]at this;simp at this;omega
  ·rw[b.2.1,k2,← a.2.1];exact m6
  ·have:=b.2.2;rw[k3]at this;simp at this;omega
 ·cases ho
theorem B42{c t g:Nat}{T:TypeId}{old:Option Nat}{v:Value}(h:HR P base ρ m.H w)(hold:∀ b,old=some b→b≤H3∧Hp.get m.H b≠some .frz)(ho:A0j (A3n old m) c t T g=some (v,m'))(hf:K4 ρ m.n m'.hi):y5 ρ m m':=fun j l h1 h2=>by
 have hn:=A0v old m;unfold A0j at ho;rw[A4D ho (h.dom j l h1),if_neg]
 ·cases old with
  | none=>exact h2
  | some b =>
    show Hp.get (A3o m b).H j=_;rw[x7];show Hp.get (m.H.set b none) j=_;obtain⟨hb,hne⟩:=hold b rfl;rw[E6 _ _ _ _ hb (h.dom j l h1),if_neg]
    ·exact h2
    ·intro e;subst e;exact hne h2
 ·intro e;obtain⟨_,_,rfl⟩:=M7 ho;rw[hn.2.2]at e;subst e;rw[hf m.n (A7 _) (Nat.lt_of_le_of_lt (Nat.le_of_eq hn.2.2.symm) (L1 (A3n old m).hi (A3n old m).n).2)]at h1;cases h1
omit [Ora] in
theorem B4q{e:TypeId}{inf:TypeInfo}(h:P.info? e=some inf):G7 P e=some inf.size:=by unfold G7;rw[h]
theorem B0a{td:Td}(htd:A9e P td){e:TypeId}{wd:Nat}{x v:Value}(ho:B7O td P m e wd x=some (v,m')):m.hi≤m'.hi∧m.lg.le m'.lg∧m.n≤m'.n:=by
 unfold B7O at ho;split at ho
 ·obtain⟨_,ho⟩:=A5 ho;split at ho
  ·rename_i hb;have a:=A3f htd hb;split at ho
   ·rename_i hj;have b:=N4 hj;have c:=A0B ho;refine⟨?_,?_,?_⟩
    ·have:=c.1;rw[(A0v _ _).1]at this;omega
    ·rw[c.2.1,(A0v _ _).2.1,b.2.1];exact a.2.1
    ·have:=c.2.2;rw[(A0v _ _).2.2]at this;omega
   ·cases ho
  ·cases ho
 ·cases ho
theorem B5s{td:Td}(htd:A9e P td){e:TypeId}{wd:Nat}{x x' v:Value}(h:HR P base ρ m.H w)(ho:B7O td P m e wd x=some (v,m'))(hf:K4 ρ m.n m'.hi)(hx:VR ρ x x')(hS:Sat m'.lg) :
  ∃ ρ',VR ρ' v x'∧St P base ρ ρ' m m' w w∧m.lg.le m'.lg∧y5 ρ m m':=by
 unfold B7O at ho;split at ho
 ·rename_i inf hi;obtain⟨h1,ho⟩:=A5 ho;obtain⟨h1,h2⟩:=B8 h1;have h1:=A2 h1;have h2:0<wd:=A1 h2;split at ho
  ·rename_i c gs old m1 hb;have a:=A3f htd hb;split at ho
   ·rename_i g m2 hj;have b:=N4 hj;have cm:=A0B ho;have k1:=A0v old m2;have hlg:m'.lg=m1.lg:=by rw[cm.2.1,k1.2.1,b.2.1]
    have hhi:m2.hi≤m'.hi:=by have:=cm.1;rw[k1.1]at this;exact this
    obtain⟨ρ1,e1,e2,e3,e4⟩:=B4I htd h hb (hf.less (B7 b.1 hhi)) hx (by rw[← hlg];exact hS) h2 (h1▸B4q hi);have hf1:K4 ρ1 m1.n m'.hi:=hf.step e1;obtain⟨ρ2,lg,j1,j2,j3,j4,j5,j6⟩:=A15 e1.hr hj (hf1.less hhi);have hf2:K4 ρ2 m2.n m'.hi:=hf1.step j1;obtain⟨nul,rows,hc,hxx⟩:=e4.ex;have hget:∀ {j l},ρ1 j=some l→Hp.get m2.H j=Hp.get m1.H j:=fun hj'=>A7B e1.hr hj (hf1.less hhi) hj'
    have hle:m.lg.le m'.lg:=by rw[hlg];exact a.2.1
    have hkeep:(∀ b,old=some b→b≤H3∧Hp.get m2.H b≠some .frz)→y5 ρ m m':=fun hq=>(e3.trans e1.ext j3).trans (fun b l hb=>j1.ext b l (e1.ext b l hb)) (B42 j1.hr hq ho hf2)
    rcases hxx with⟨rfl,rfl,rfl,hold⟩|⟨rfl,b0,ab,l,cap,C,fz,rfl,hbm,hbg,hbrw,hbl,hon,rfl,hheap,hcap,hroom,hnfz,hrws⟩
    ·have hold1:∀ b,old=some b→∃ ab l,b≤H3∧Hp.get m2.H b=some ab∧ab.rw=true∧ρ2 b=some l∧l.on=false:=fun b hb'=>by
      obtain⟨ab,l,q1,q2,q3,q4,q5⟩:=hold b hb';exact⟨ab,l,q1,by rw[hget q4];exact q2,q3,j1.ext _ _ q4,q5⟩
     obtain⟨ρ3,q1,q2⟩:=B0d j1.hr hold1 ho hf2 hc rfl hi h1;exact⟨ρ3,q1,St.trans hf e1 (St.trans hf1 j1 q2),hle,hkeep fun b hb'=>by
      obtain⟨ab,l,q1,q2,q3,_⟩:=hold1 b hb';exact⟨q1,fun he=>by rw[q2]at he;cases he;cases q3⟩⟩
    ·have hg1:Hp.get m2.H b0=some ab:=by rw[hget hbl];exact hbg
     obtain⟨ρ3,q1,q2⟩:=A5i (w':=w) (cap:=cap) (sh:=l.sh) j1.hr hbm hg1 hbrw (j1.ext _ _ hbl) hon ho hf2 hc rfl hi h1 hcap hroom (hrws lg.G fun b hb l hl=>j6 b hb l hl) j4 hnfz ⟨rfl,rfl,rfl⟩ rfl (fun _ _=>rfl) hheap;exact⟨ρ3,q1,St.trans hf e1 (St.trans hf1 j1 q2),hle,hkeep fun b hb'=>by
      cases hb';exact⟨hbm,fun he=>by rw[hg1]at he;cases he;cases hbrw⟩⟩
   ·cases ho
  ·cases ho
 ·cases ho
theorem B5a:∀ (d:Nat),A9e P (B8M P d)
 | 0=>B8N
 | d+1=>by
   have ih:=B5a d;refine⟨fun{base ρ m m' w t v v' x b} h ho hf hv hS=>?_,fun{m m' t v x b} ho=>?_⟩
   ·unfold B8M at ho;split at ho
    ·split at ho
     ·split at ho
      ·rename_i x1 m1 hn;have a:=A2x ho;obtain⟨ρ1,c1,c2,c3,c4⟩:=B5s ih h hn (hf.less a.1) hv (hS.le a.2.1);obtain⟨ρ2,l,d1,d2,d3,d4,d5,d6⟩:=B1P c2.hr ho (hf.step c2) c1 hS;exact⟨ρ2,l,St.trans hf c2 d1,d2,d3,d4,d5,c3.trans d6,c4.trans c2.ext (B2j c2.hr ho (hf.step c2))⟩
      ·cases ho
     ·cases ho
    ·exact B8N.ok h ho hf hv hS
   ·unfold B8M at ho;split at ho
    ·split at ho
     ·split at ho
      ·rename_i x1 m1 hn;have a:=B0a ih hn;have b:=A2x ho;exact⟨B7 a.1 b.1,a.2.1.trans b.2.1,B7 a.2.2 b.2.2⟩
      ·cases ho
     ·cases ho
    ·exact A2x ho
theorem X1:A9e P (tdP P):=B5a 3
theorem B2N{t t2:TypeId}{x y v:Value}(ho:A6v P m t t2 x y=some (v,m')):m.hi≤m'.hi∧m.lg.le m'.lg∧m.n≤m'.n:=by
 unfold A6v at ho;split at ho
 ·rename_i e d2 hu hu2;cases hd2:A1U d2 with
  | false=>rw[hd2]at ho;cases ho
  | true =>
    rw[hd2]at ho;simp only[R4,cond_false]at ho;split at ho
    ·obtain⟨_,ho⟩:=A5 ho;split at ho
     ·rename_i hbeh;have a:=B7i X1 hbeh;split at ho
      ·rename_i hba;have b:=A3f X1 hba;have c:=A4m ho;exact⟨by omega,a.2.1.trans (b.2.1.trans c.2.1),by omega⟩
      ·split at ho
       ·obtain⟨_,ho⟩:=A5 ho;have c:=A4m ho;exact⟨by omega,a.2.1.trans c.2.1,by omega⟩
       ·cases ho
     ·cases ho
    ·cases ho
 ·cases ho
theorem B7p.step{wd:Nat}{bh:Beh}{gs:List Nat}{y':Value}{rows2:List (List U)}{new':List Value}(h:B7p P ρ w wd bh gs y' rows2 new')(hg:∀ b ∈ gs,∃ l,ρ b=some l)(he:∀ b l,ρ b=some l→ρ' b=some l):B7p P ρ' w wd bh gs y' rows2 new' :=
 ⟨h.len,h.first,h.size,h.flat,fun R hR=>h.rows R fun b hb l hl=>hR b hb l (he b l hl),h.ev⟩
theorem B7r{e:TypeId}{n:Nat}(h:B7s P e n=true):∃ z,A2t P e=some z∧z.cells.size=n:=by
 unfold B7s at h;split at h
 ·rename_i z hz;exact⟨z,hz,A2 h⟩
 ·cases h
theorem B5R{t t2 ty:TypeId}{x y x' y' v:Value}(h:HR P base ρ m.H w)(hb:base≤w.heap.size)(ho:A6v P m t t2 x y=some (v,m'))(hf:K4 ρ m.n m'.hi)(hx:VR ρ x x')(hy:VR ρ y y')(hS:Sat m'.lg) :
  VOk P base ρ m w (Builtin.append_ #[t,t2] ty #[x',y']) v m':=by
 unfold A6v at ho;split at ho
 ·rename_i e d2 hu hu2;cases hd2:A1U d2 with
  | false=>rw[hd2]at ho;cases ho
  | true =>
    rw[hd2]at ho;simp only[R4,cond_false]at ho;split at ho
    ·rename_i inf hi;obtain⟨hq,ho1⟩:=A5 ho;clear ho;obtain⟨hq1,hq2⟩:=B8 hq;obtain⟨hq3,hq4⟩:=B8 hq1;have hby:=A1 hq3;have hwd:0<inf.size:=A1 hq4;obtain⟨z,hz,hzs⟩:=B7r hq2;have hsz:G7 P e=some inf.size:=by unfold G7;rw[hi]
     split at ho1
     ·rename_i bh gs sure m1 hbeh;split at ho1
      ·rename_i c g0 old m2 hba;have mb:=A3f X1 hba;have mp:=A4m ho1;have hf1:K4 ρ m.n m1.hi:=hf.less (by omega);obtain⟨ρ1,rows2,new',a1,a2,a3,a4,a5,a6⟩:=B6k X1 h hbeh hf1 hy (hS.le (mb.2.1.trans mp.2.1)) hwd hsz;have hf2:K4 ρ1 m1.n m'.hi:=hf.step a1;obtain⟨ρ2,b1,b2,b3,b4⟩:=B4I X1 a1.hr hba (hf2.less mp.1) (hx.mono a1.ext) (hS.le mp.2.1) hwd hsz;obtain⟨v',ρ3,w3,c1,c2,c3⟩:=B5p (ty:=ty) hu hu2 hd2 hi hz hzs hby b1.hr hb ho1 (hf2.step b1) hS b4 (a5.step (fun b hb'=>(a4 b hb').2) b1.ext);exact⟨v',ρ3,w3,c1,c2,St.trans hf (St.trans (hf.less mp.1) a1 b1) c3⟩
      ·split at ho1
       ·rename_i b c tg hbn;obtain⟨htg,ho2⟩:=A5 ho1;clear ho1;have htg:=A2 htg;have mp:=A4m ho2;have hf1:K4 ρ m.n m1.hi:=hf.less (by omega);obtain⟨ρ1,rows2,new',a1,a2,a3,a4,a5,a6⟩:=B6k X1 h hbeh hf1 hy (hS.le mp.2.1) hwd hsz;have hf2:K4 ρ1 m1.n m'.hi:=hf.step a1;obtain⟨l,d1,d2,d3,d4,d5⟩:=A2Y hx;obtain⟨nul,wd2,rows,q1,q2⟩:=A2e d2 d3 d4;have hw2:wd2=inf.size:=by omega
        subst hw2;rw[q1]at d2;rcases A0M d2 with⟨rfl,rfl,rfl⟩|⟨rfl,a,cap,rfl,hc⟩
        ·have hbase:C1J P base ρ1 m1 w e inf.size c [b] none (.slice none 0 0):=⟨true,[],q1,.inl ⟨rfl,rfl,rfl,fun b hb=>by cases hb⟩⟩;obtain⟨v',ρ3,w3,c1,c2,c3⟩:=B5p (ty:=ty) (g0:=[b]) (gs:=gs) hu hu2 hd2 hi hz hzs hby a1.hr hb ho2 hf2 hS hbase a5;exact⟨v',ρ3,w3,c1,c2,St.trans hf a1 c3⟩
        ·have hcap:cap=rows.length:=d5;subst hcap;obtain⟨v',ρ3,w3,c1,c2,c3⟩:=C1g (ty:=ty) hu hu2 hd2 hi hz hzs hby a1.hr hb ho2 hf2 hS q1 (a1.ext _ _ d1) (by rw[q1];exact d2) a5 (a6 rfl);exact⟨v',ρ3,w3,c1,c2,St.trans hf a1 c3⟩
       ·cases ho1
     ·cases ho1
    ·cases ho
 ·cases ho
end
end Go.Sx
namespace Go.Sx
set_option linter.all false
open Go
set_option linter.unusedVariables false
set_option linter.unusedSimpArgs false
variable [Ora]
section
variable {P:Program} {base:Nat} {ρ ρ':Ren} {m m':Mem} {w w':World}
theorem B3A{row us:List U}{o:Nat}(h:o+us.length≤row.length):(B4y row o us).length=row.length:=by
 unfold B4y;simp;omega
theorem B8x{row us:List U}{o j:Nat}(h:o+us.length≤row.length):(B4y row o us)[j]? = if o≤j∧j<o+us.length then us[j-o]? else row[j]? := by
 unfold B4y;have hto:(row.take o).length=o:=by simp;omega
 by_cases h1:j<o
 ·rw[if_neg (by omega),C3,E9 (by omega),F5 h1]
 ·by_cases h2:j<o+us.length
  ·rw[if_pos ⟨by omega,h2⟩,C3,E7 (by omega),hto,E9 (by omega)]
  ·rw[if_neg (by omega),E7 (by simp;omega),H9];congr 1
   simp;omega
theorem O9.set{R:Nat→Option Obj}{rows:List (List U)}{wd s k o:Nat}{C C':Array Value}{us:List U}{vs:List Value}(h:O9 R rows wd C s)(hk:k<rows.length)(ho:o+us.length≤wd)(he:n8 R us vs)
  (hC:∀ j,C'[j]? = if s+k*wd+o≤j∧j<s+k*wd+o+vs.length then vs[j-(s+k*wd+o)]? else C[j]?):O9 R (rows.set k (B4y (rows.getD k []) o us)) wd C' s:=by
 have hrow:rows[k]? = some rows[k]:=A6 hk;have hgd:rows.getD k []=rows[k]:=by rw[B3,hrow];rfl
 have hrl:rows[k].length=wd:=h.1 _ (Q5 hk);rw[hgd];refine⟨fun row hr=>?_,fun r row j u v a1 a2 a3=>?_⟩
 ·rcases List.mem_or_eq_of_mem_set hr with h1|rfl
  ·exact h.1 row h1
  ·rw[B3A (by omega)];exact hrl
 ·rw[hC]at a3;by_cases hrk:k=r
  ·subst hrk;rw[Z2 hk]at a1;have a1:=A8 a1;subst a1;have hj:=(A9.1 a2).1;rw[B3A (by omega),hrl]at hj;rw[B8x (by omega)]at a2;by_cases hin:o≤j∧j<o+us.length
   ·rw[if_pos hin]at a2;rw[if_pos (by rw[← he.1];omega)]at a3;exact he.2 (j-o) u v a2 (by rw[← a3];congr 1;omega)
   ·rw[if_neg hin]at a2;rw[if_neg (by rw[← he.1];omega)]at a3;exact h.2 k _ j u v hrow a2 a3
  ·rw[A1N hrk]at a1;have hj:=(A9.1 a2).1;rw[h.1 _ (E1 a1)]at hj;have hr1:=(A9.1 a1).1;have hvl:=he.1;rw[if_neg]at a3
   ·exact h.2 r row j u v a1 a2 a3
   ·rcases G1 r k with hlt|hge
    ·have h2:(r+1)*wd≤k*wd:=F2 wd hlt;rw[H1]at h2;omega
    ·have h2:(k+1)*wd≤r*wd:=F2 wd (by omega);rw[H1]at h2;omega
theorem B66{t:TypeId}{x x' y y' v:Value}(h:HR P base ρ m.H w)(ho:A8X P m t x y=some (v,m'))(hf:K4 ρ m.n m'.hi)(hx:VR ρ x x')(hy:VR ρ y y')(hS:Sat m'.lg):UOk P base ρ m w (Instr.storeAt t x' y') m'∧v=undef∧m.lg.le m'.lg:=by
 unfold A8X at ho;split at ho
 ·rename_i b i tg z o ts hts;cases hw0:A3X y with
  | true=>rw[hw0]at ho;cases ho
  | false =>
  rw[hw0]at ho;simp only[cond_false]at ho;split at ho
  ·rename_i xs gs m1 hd;split at ho
   ·rename_i c tc T g hg;obtain⟨htc,ho1⟩:=A5 ho;clear ho;have htc:=A2 htc;split at ho1
    ·rename_i g2 m2 hj;rw[S3]at ho1;simp only[hole]at ho1;obtain⟨hs,rfl⟩:=A4s ho1;obtain⟨hsle,hsm⟩:=X6 hs;have md:=U6 X1 hd;have mj:=N4 hj;have hhi:m2.hi=m'.hi:=by rw[hsm];simp
     have hlg:m'.lg=A3c m2 tg (.set (tg-10) o) (hole c tg::z::xs):=by rw[hsm];simp[hole]
     have hle2:m2.lg.le m'.lg:=by rw[hlg];exact⟨[_],rfl⟩
     have hf1:K4 ρ m.n m1.hi:=hf.less (by omega);have hl2:m1.lg.le m'.lg:=by rw[← mj.2.1];exact hle2
     obtain⟨ρ1,e1,e2,e3,e4,e5,e6⟩:=A3K X1 h hd hf1 (hy.cells hw0) (hS.le hl2);have hf2:K4 ρ1 m1.n m2.hi:=(hf.step e1).less (by omega);obtain⟨ρ2,lg,d1,d2,d3,d4,d5,d6⟩:=A15 e1.hr hj hf2;obtain⟨⟨l,wd,A8f,k,a1,a2,a3,a4,a5,a6,rfl⟩,a8⟩:=A8F hx;have a1':=e1.ext _ _ a1;obtain⟨wd2,inf,q1,q2,q3,q4⟩:=SqR.ex (e1.hr.atl a1' hg).1;rcases q4 with⟨q4,_⟩|⟨_,q4⟩
     ·rw[a2]at q4;cases q4
     obtain⟨C,fz,T',rows,lg0,f1,f2,f3,f4,f5,f6,f7,f8,f9⟩:=q4;have hwd:wd2=wd:=by
      have:tg=10+wd:=by rw[← a8,a3];rfl
      omega
     subst hwd;obtain⟨rfl,f10⟩:=f9 rfl;have htg:tg=10+wd2:=by omega
     have hS2:Sat (m2.wLg (A3c m2 tg (.set (tg-10) o) (hole c tg::z::xs))).lg:=by rw[u7,← hlg];exact hS
     obtain⟨r1,r2,nul,wd3,rws,r3,r4⟩:=A5L hS2 (.refl _);obtain⟨kk,hz⟩:=B2M a4;have hargs:(hole c tg::z::xs).map (F8 Ora.env)=.seq false wd2 rows::.int kk (.ofNat k)::xs.map (F8 Ora.env):=by
      show Ora.env c::F8 Ora.env z::xs.map (F8 Ora.env)=_;rw[f2,hz]
     rw[hargs,show tg-10=wd2 by omega]at r1;have r1:Ora.env m2.lg.nx=if wd2=wd2∧k<rows.length∧o+(xs.map (F8 Ora.env)).length≤wd2 then .seq false wd2 (rows.set k (B4y (rows.getD k []) o (xs.map (F8 Ora.env))))else .none:=r1
     by_cases hc:wd2=wd2∧k<rows.length∧o+(xs.map (F8 Ora.env)).length≤wd2
     ·rw[if_pos hc]at r1;obtain⟨_,hkl,hol⟩:=hc;have hR:∀ b' ∈ gs,∀ l',ρ1 b'=some l'→Sub l'.G lg.G:=fun b' hb' l' hl'=>d6 b' (.tail _ hb') l' hl'
      have henc:=e6 lg.G hR;have hsub0:Sub lg0.G lg.G:=d6 g (.head _) lg0 f7;have hvl:y'.cells.toList.length=(xs.map (F8 Ora.env)).length:=henc.1.symm;have hk2:(k+1)*wd2≤l.cap*wd2:=F2 wd2 (by omega);rw[H1]at hk2;obtain⟨w',g1,g2',g3,g4,g5⟩:=n9 (P:=P) (b:=l.blk) (o:=l.sh+k*wd2+o) (fz:=fz) y'.cells.toList 0 C w f1 (B0z henc) (by rw[hvl];omega) f10;have hCl:C.toList.length=C.size:=T9;have hlenC:(Array.mk (A1B C.toList (l.sh+k*wd2+o+0) y'.cells.toList)).size=C.size:=by simp[o8]
      have hCg:∀ j,(Array.mk (A1B C.toList (l.sh+k*wd2+o+0) y'.cells.toList))[j]? = if l.sh+k*wd2+o≤j∧j<l.sh+k*wd2+o+y'.cells.toList.length then y'.cells.toList[j-(l.sh+k*wd2+o)]? else C[j]? := fun j=>by
       rw[J3,A4A _ _ _ _ (by rw[hvl];omega)];simp
      have hrows:O9 lg.G rows wd2 C l.sh:=O9.mono ⟨f6,f8⟩ hsub0;have hst1:St P base ρ ρ2 m (m2.wLg (A3c m2 tg (.set (tg-10) o) (hole c tg::z::xs))) w w:=St.trans (hf.less (by simp;omega)) (St.trans (hf.less (by omega)) e1 d1) (St.wLg d1.hr _);have hgetb:Hp.get (m2.wLg (A3c m2 tg (.set (tg-10) o) (hole c tg::z::xs))).H b=some (.sq c tc T' g false):=by rw[A5_,A7B e1.hr hj hf2 a1'];exact hg
      have hl2':=d1.ext _ _ a1';have hbr:BR P ρ2 (.sq m2.lg.nx tg T' g2 false) l w':=by
       refine⟨⟨wd2,inf,htg,q2,q3,.inr ⟨a2,_,fz,T',_,lg,g4,r1,by rw[List.length_set];exact f3,f4,by rw[hlenC];exact f5,(hrows.set hkl hol henc hCg).1,d4,(hrows.set hkl hol henc hCg).2,fun _=>⟨rfl,by rw[hlenC];exact f10⟩⟩⟩⟩
      have hst2:=St.write hst1.hr hs hgetb rfl hl2' a2 g2' g3 g5 hbr (fun h=>by cases h);refine⟨⟨ρ2,w',?_,St.trans hf hst1 hst2⟩,rfl,md.2.1.trans hl2⟩;have hsz2:=A3L hts;have hts3:ts.length=(xs.map (F8 Ora.env)).length:=by
       have:=congrArg List.length e5;rw[W1]at this;exact this.symm
      have e:y'.cells.size=ts.length:=by rw[hts3,← hvl];simp
      simp[Instr.storeAt,Instr.sureAddr,storeVar,Sem.run_bind,K8 hsz2,Result.andThen,e,g1]
     ·rw[if_neg hc]at r1;rw[r1]at r3;cases r3
    ·cases ho1
   ·cases ho
  ·cases ho
 ·cases ho
theorem B69{t:TypeId}{x x' v:Value}{lo hi mx lo' hi' mx':Option Value}(h:HR P base ρ m.H w)(ho:A8Y P m t x lo hi mx=some (v,m'))(hf:K4 ρ m.n m'.hi)(hx:VR ρ x x')(hlo:OR ρ lo lo')(hhi:OR ρ hi hi')(hmx:OR ρ mx mx')(hS:Sat m'.lg) :
  VOk P base ρ m w (Instr.sliceAt t x' lo' hi' mx') v m'∧m.lg.le m'.lg:=by
 unfold A8Y at ho;split at ho
 ·rename_i e b i tg hu;split at ho
  ·rename_i s hs;obtain⟨htg,ho⟩:=A5 ho;have htg:=A2 htg;obtain⟨l,h1,h2,h3,h4⟩:=A4y hx;obtain⟨⟨r,g1,g2⟩,⟨lg,rfl⟩,g4⟩:=B2A (w:=w) hu hs htg h1 h2 h3 (fun h=>by cases h) ho hlo hhi hmx hS;exact⟨⟨r,ρ,w,g1,g2,St.wLg h lg⟩,g4⟩
  ·cases ho
 ·rename_i e b i tg hu;split at ho
  ·rename_i s hs;obtain⟨htg,ho⟩:=A5 ho;have htg:=A2 htg;obtain⟨l,h1,h2,h3,h4,h5⟩:=A2Y hx;obtain⟨⟨r,g1,g2⟩,⟨lg,rfl⟩,g4⟩:=B2A (w:=w) hu hs htg h1 h2 h3 (fun _=>h5) ho hlo hhi hmx hS;exact⟨⟨r,ρ,w,g1,g2,St.wLg h lg⟩,g4⟩
  ·cases ho
 ·rename_i e b i tg hu;split at ho
  ·rename_i s hs;obtain⟨htg,ho⟩:=A5 ho;have htg:=A2 htg;split at ho
   ·rename_i c tc b2 m1 hd;have hcut:∀ {m1:Mem},B32 m1 b2 c tg false lo hi mx=some (v,m')→J9 m1 m'∧m1.lg.le m'.lg:=fun{m1} ho=>by
     have go:∀ {m1:Mem} {l h:Value} {cc:Bool},A2g m1 b2 c tg l h cc=some (v,m')→J9 m1 m'∧m1.lg.le m'.lg:=fun h=>by
      unfold A2g at h;obtain⟨_,h⟩:=A5 h;rw[S3]at h;simp only[D3,O5]at h;obtain⟨_,rfl⟩:=h;exact⟨⟨_,rfl⟩,m6⟩
     unfold B32 B31 at ho;split at ho
     ·exact go ho
     ·exact go (A5 ho).2
     ·split at ho
      ·rename_i hl
       have:=go ho;exact⟨(A1k hl).1.trans this.1,(A1k hl).2.trans this.2⟩
      ·cases ho
     ·cases ho
    obtain⟨⟨lg,hlg⟩,hle⟩:=hcut ho;have hm1:m1.hi=m'.hi:=by rw[hlg];simp
    obtain⟨ρ1,l,e1,e2,e3,e4,e5,e6⟩:=B1P h hd (hf.less (by omega)) hx (hS.le hle);have mono:∀ {o o':Option Value},OR ρ o o'→OR ρ1 o o':=fun{o o'} h=>by
     cases o<;>cases o'<;>first|exact trivial|exact h.elim|exact VR.mono e1.ext h
    obtain⟨⟨r,g1,g2⟩,⟨lg2,hlg2⟩,g4⟩:=B2A (w:=w) (cl:=false) hu hs htg e2 e4 e5 (fun h=>by cases h) ho (mono hlo) (mono hhi) (mono hmx) hS;subst hlg2;exact⟨⟨r,ρ1,w,g1,g2,St.trans (hf.less (by simp)) e1 (St.wLg e1.hr lg2)⟩,e6.trans g4⟩
   ·cases ho
  ·cases ho
 ·cases ho
end
end Go.Sx
namespace Go.Sx
set_option linter.all false
open Go
set_option linter.unusedVariables false
set_option linter.unusedSimpArgs false
variable [Ora]
section
variable {P:Program} {base:Nat} {ρ ρ':Ren} {m m':Mem} {w w':World}
theorem B0M{s t e:TypeId}{a':Addr}{n c':Nat}{ns:List Int}(hs:P.underlying s=some (.slice e))(ht:P.underlying t=some .string)(he:P.underlying e=some (.int .u8))(hlc:(loadCells a' n).run P w=.ok (ns.map (Value.int .u8)).toArray w) :
  (convert s t (.slice (some a') n c')).run P w=.ok (.string ⟨⟨ns.map fun n=>UInt8.ofNat n.toNat⟩⟩) w:=by
 have:=run_bytesToString w a' n c' ns hlc;have e2:=A5n ns [];simp only[d8]at e2;simp only[convert,Sem.run_bind,D8 hs,D8 ht,D8 he,Result.andThen];rw[this,show ByteArray.empty=ByteArray.mk ⟨[]⟩from rfl,e2]
theorem B1U{s t e:TypeId}{n c:Nat}(hs:P.underlying s=some (.slice e))(ht:P.underlying t=some .string)(he:P.underlying e=some (.int .u8)):(convert s t (.slice none n c)).run P w=.ok (.string ByteArray.empty) w:=by
 simp[convert,Sem.run_bind,D8 hs,D8 ht,D8 he,Result.andThen,Conv.bytesToString]
theorem B22{s t e:TypeId}{ds:TypeDesc}{b:ByteArray}(hs:P.underlying s=some ds)(ht:P.underlying t=some (.slice e))(he:P.underlying e=some (.int .u8))(w:World) :
  ∃ (cap:Nat) (C:Array Value),b.size≤cap∧C.size=cap∧(∀ (i:Nat) (u:Value),(P8 b.data.toList)[i]? = some u→C[i]? = some u)∧(convert s t (.string b)).run P w=.ok (.slice (some ⟨w.heap.size,0,none⟩) b.size cap) { w.drew with heap:=w.heap.push (.cells C e (C.size,C.size+1)) }:=by
 let q:Question:=.appendCap b.size 0 e
 let cap:=q.cut (w.tape w.drawn q)
 have hcap:b.size≤cap:=by show b.size≤b.size+_;omega
 have hch:(choose q).run P w=.ok cap w.drew:=by
  simp only[choose,Sem.run];rw[if_neg (by simp[q,Question.forced])];rfl
 let C:Array Value:=(b.data.map fun b=>Value.int .u8 b.toNat)++Array.replicate (cap-b.size) (.int .u8 0)
 have hC:C.size=cap:=by
  have:b.data.size=b.size:=rfl;simp[C,this];omega
 refine⟨cap,C,hcap,hC,fun i u hi=>?_,?_⟩
 ·have hl:=(A9.1 hi).1;simp[P8]at hl;have hl':i<(b.data.map fun b=>Value.int .u8 b.toNat).size:=by simpa using hl
  show((b.data.map fun b=>Value.int .u8 b.toNat)++Array.replicate (cap-b.size) (.int .u8 0))[i]? = some u;rw[V0 hl']
  simpa [P8]using hi
 ·have hmk:∀ w2:World,w2.heap[w.heap.size]? = some (.cells C e (0,0))→(markStringish ⟨w.heap.size,0,none⟩).run P w2=.ok () (w2.freeze { block:=w.heap.size,off:=C.size } 1):=fun w2 h2=>by
   simp[markStringish,shape,freeze,Sem.run,World.shape?,h2]
  have hfr:({ w.drew with heap:=w.heap.push (.cells C e (0,0)) }:World).freeze { block:=w.heap.size,off:=C.size } 1={ w.drew with heap:=w.heap.push (.cells C e (C.size,C.size+1)) }:=by
   unfold World.freeze;rw[if_neg (by decide)];congr 1
   apply Array.ext_getElem?;intro i;rw[J4];by_cases hi:w.heap.size=i
   ·subst hi;simp
   ·rw[if_neg hi];simp only[w9];rw[if_neg (fun h=>hi h.symm),if_neg (fun h=>hi h.symm)]
  have hconv:(convert s t (.string b)).run P w=(Conv.stringToBytes e b).run P w:=by
   cases ds<;>simp[convert,Sem.run_bind,D8 hs,D8 ht,D8 he,Result.andThen]
  rw[hconv];unfold Conv.stringToBytes;simp only[Sem.run_bind,show(choose (.appendCap b.size 0 e)).run P w=.ok cap w.drew from hch,Result.andThen];have hnr:(newRow e C).run P w.drew=.ok ⟨w.heap.size,0,none⟩ { w.drew with heap:=w.heap.push (.cells C e (0,0)) }:=rfl;rw[show(newRow e ((b.data.map fun b=>Value.int .u8 b.toNat)++Array.replicate (cap-b.size) (.int .u8 0))).run P w.drew=_ from hnr];simp only[Result.andThen];rw[hmk _ (by simp),hfr];rfl
theorem B2I:∀ {us:List U} {s:List UInt8} {vs:List Value},A7N us=some s→n8 (fun k=>w.heap[k]?) us vs→∃ ns:List Int,vs=ns.map (Value.int .u8)∧s=ns.map fun n=>UInt8.ofNat n.toNat
 | [],s,vs,h,he=>by
   cases h;have:vs=[]:=G0.1 he.1.symm;subst this;exact⟨[],rfl,rfl⟩
 | u::us,s,vs,h,he=>by
   unfold A7N at h;split at h
   ·rename_i heq;cases heq
   ·rename_i n r heq;cases heq;split at h
    ·split at h
     ·rename_i l hl;cases h;cases vs with
      | nil=>have:=he.1;simp at this
      | cons v vr =>
        obtain⟨ns,e1,e2⟩:=B2I (vs:=vr) hl ⟨by have:=he.1;simpa using this,fun i a b h1 h2=>he.2 (i+1) a b (by simpa using h1) (by simpa using h2)⟩
        have:=A42 (he.2 0 _ v rfl rfl) rfl;subst this;exact⟨(Int.ofNat n)::ns,by rw[e1];rfl,by rw[e2];rfl⟩
     ·cases h
    ·cases h
   ·cases h
theorem B2J:∀ {rows:List (List U)} {s:List UInt8},A75 rows=some s→A7N (rows.flatMap id)=some s∧(rows.flatMap id).length=rows.length∧∀ (r:Nat) (row:List U) (j:Nat) (u:U),rows[r]? = some row→row[j]? = some u→j=0∧(rows.flatMap id)[r]? = some u
 | [],s,h=>by cases h;exact⟨rfl,rfl,fun r row j u h=>by simp at h⟩
 | row::rows,s,h=>by
   unfold A75 at h;split at h
   ·rename_i heq;cases heq
   ·rename_i n r heq;cases heq;split at h
    ·rename_i hn;split at h
     ·rename_i l hl;cases h;obtain⟨h1,h2,h3⟩:=B2J hl;refine⟨?_,by show([U.int .u8 (Int.ofNat n)]++rows.flatMap id).length=_;rw[A0,h2];simp;omega,fun q row j u a1 a2=>?_⟩
      ·simp only[A2j,id,Y3,d8,A7N];rw[if_pos hn,h1]
      ·cases q with
       | zero =>
         simp at a1;subst a1;cases j with
         | zero=>simp at a2;subst a2;exact⟨rfl,rfl⟩
         | succ j=>simp at a2
       | succ q =>
         obtain⟨b1,b2⟩:=h3 q row j u (by simpa using a1) a2;exact⟨b1,by simpa using b2⟩
     ·cases h
    ·cases h
   ·cases h
theorem A6L{t:Nat}:∀ {l:List Value},x4 t l=true→∀ v ∈ l,G4 v=t
 | [],_,v,hv=>by cases hv
 | x::r,h,v,hv=>by
   obtain⟨h1,h2⟩:=B8 (show(Nat.beq (G4 x) t && x4 t r)=true from h);rcases C5.1 hv with rfl|hv
   ·exact A2 h1
   ·exact A6L h2 v hv
theorem A6p{R:Nat→Option Obj}{cs cs':List Value}(h:LR ρ cs cs')(ht:∀ v ∈ cs,G4 v<10):n8 R (cs.map (F8 Ora.env)) cs':=by
 refine⟨by simp[h.1],fun i u v a1 a2=>?_⟩;rw[I9]at a1;cases hc:cs[i]? with
 | none=>rw[hc]at a1;cases a1
 | some x =>
   rw[hc]at a1;have a1:=A8 a1;subst a1;exact .sc (A01 (h.2 i x v hc a2) (ht x (E1 hc))).1
theorem B3f(m m1:Mem):C33 m m1=⟨m.H,m.n,m.W,m1.hi,m1.lg⟩:=by cases m;cases m1;rfl
theorem St.kept{ρ:Ren}{m:Mem}{w:World}{hi:Nat}{lg:Lg}(h:HR P base ρ m.H w)(hh:m.hi≤hi):St P base ρ ρ m ⟨m.H,m.n,m.W,hi,lg⟩ w w :=
 ⟨fun _ _ h=>h,fun b l h1 h2=>(by rw[h1]at h2;cases h2),A7 _,hh,fun h=>B7 h hh,h,fun _ h=>h,fun b h1 h2=>absurd h1 h2,fun _ _ _=>rfl,A7 _,⟨rfl,rfl,rfl⟩,fun b l h1 h2=>(by rw[h1]at h2;cases h2),fun _ _ _ _=>rfl,fun _ h=>.inr h⟩
theorem C0A{s t:TypeId}{x x' v:Value}(h:HR P base ρ m.H w)(hb:base≤w.heap.size)(ho:B34 P m s t x=some (v,m'))(hf:K4 ρ m.n m'.hi)(hx:VR ρ x x')(hS:Sat m'.lg):VOk P base ρ m w (convert s t x') v m'∧m.lg.le m'.lg:=by
 unfold B34 at ho;split at ho
 ·rename_i e a n c hs ht;split at ho
  ·rename_i he;split at ho
   ·rename_i cs hr;obtain⟨htg,ho⟩:=A5 ho;obtain⟨u,e1,e2,r,e3,e4,e5⟩:=N0 ho hS;obtain⟨lg,rfl⟩:=I7 ho;have hst:=St.wLg h lg;have htags:=A6L htg;have key:∀ {a' c'} {r':List Value},LR ρ cs r'→(loadCells a' n).run P w=.ok ⟨r'⟩ w→VOk P base ρ m w (convert s t (.slice (some a') n c')) v (m.wLg lg):=fun{a' c' r'} hl hlc=>by
     have he1:n8 (fun k=>w.heap[k]?) (cs.map (F8 Ora.env)) r':=A6p hl (fun v hv=>by rw[htags v hv];omega);have hev:∃ sb,A7N (cs.map (F8 Ora.env))=some sb∧u=.str sb:=by
      have e1:(match A7N (cs.map (F8 Ora.env))with|some s=>U.str s|none=>.none)=u:=e1;split at e1
      ·rename_i sb hsb;exact⟨sb,hsb,e1.symm⟩
      ·subst e1;cases e3
     obtain⟨sb,q1,rfl⟩:=hev;cases e3;obtain⟨ns,r1,r2⟩:=B2I (w:=w) q1 he1;subst r1;subst r2;exact⟨_,ρ,w,B0M hs ht he hlc,e4 ρ,hst⟩
    refine⟨?_,J5 ho⟩;rcases P1 hx with⟨l,hl,_,_,rfl⟩|⟨l,c',hl,_,_,_,_,rfl⟩|⟨a',c',_,rfl,_,rfl⟩
    ·obtain⟨r',g1,g2,g3⟩:=r9 h hr hl;exact key g1 (J8 g2 g3)
    ·obtain⟨r',g1,g2,g3⟩:=r9 h hr hl;exact key g1 (J8 g2 g3)
    ·have:cs=[]:=by
      unfold A0K at hr;split at hr
      ·have:=(A3d hr).2;simpa using this
      ·cases hr
     subst this;exact key .nil (by simp[loadCells,loadCellsFrom])
   ·cases ho
  ·cases ho
 ·rename_i e fn a1 a2 hs ht;split at ho
  ·rename_i he;split at ho
   ·rename_i hh b m1 hd;rw[B3f]at ho;obtain⟨u,e1,e2,r,e3,e4,e5⟩:=N0 ho hS;have hle:=J5 ho;obtain⟨lg,rfl⟩:=I7 ho;obtain⟨ρ1,l,d1,d2,d3,d4,d5,d6⟩:=B1P h hd (hf.less (by simp[Mem.wLg])) hx (hS.le hle);have hst:St P base ρ ρ m (Mem.wLg ⟨m.H,m.n,m.W,m1.hi,m1.lg⟩ lg) w w:=St.kept h d1.hle;obtain⟨nul,wd,rows,q1,q2⟩:=A2e d4 d5 (by omega);have hw1:wd=1:=by omega
    subst hw1;rw[q1]at d4;have hev:∃ sb,A75 rows=some sb∧u=.str sb:=by
     have e1:evU .str [F8 Ora.env hh]=u:=e1;rw[q1]at e1;have e1:(if 1=1 then(match A75 rows with|some s=>U.str s|none=>.none)else .none)=u:=e1;rw[if_pos rfl]at e1;split at e1
     ·rename_i sb hsb;exact⟨sb,hsb,e1.symm⟩
     ·subst e1;cases e3
    obtain⟨sb,hsb,rfl⟩:=hev;cases e3;refine⟨?_,d6.trans hle⟩;have hG:=(d1.hr.atl d2 d3).1.2;rcases A0M d4 with⟨rfl,rfl,rfl⟩|⟨rfl,a,c,rfl,hc⟩
    ·cases hsb;exact⟨_,ρ,w,B1U hs ht he,e4 ρ,hst⟩
    ·obtain⟨_,new',g1,g2,g3,g4⟩:=A7J (w:=w) d4 hG;obtain⟨k1,k2,k3⟩:=B2J hsb;have henc:n8 (fun k=>w.heap[k]?) (rows.flatMap id) new':=by
      refine⟨by rw[k2,g1];simp,fun i u v b1 b2=>?_⟩;have hil:i<rows.length:=by have:=(A9.1 b1).1;rw[k2]at this;exact this
      have hrl:rows[i].length=1:=g3.1 _ (Q5 hil);have hrow:rows[i]? = some rows[i]:=A6 hil;have h0:rows[i][0]? = some (rows[i][0]'(by omega)):=A6 (by omega);obtain⟨_,k4⟩:=k3 i _ 0 _ hrow h0;rw[b1]at k4;have k4:=A8 k4;rw[k4];exact(g3.2 i _ 0 _ v hrow h0 (by simpa using b2)).mono hG
     obtain⟨ns,r1,r2⟩:=B2I (w:=w) k1 henc;subst r1;subst r2;have g1':(ns.map (Value.int .u8)).length=rows.length:=by rw[g1];omega
     exact⟨_,ρ,w,B0M hs ht he (A4J g1' g4),e4 ρ,hst⟩
   ·cases ho
  ·cases ho
 ·rename_i y _ _ _ ds e hs ht;obtain⟨htg,ho⟩:=A5 ho;have htg:=A2 htg;split at ho
  ·rename_i he;split at ho
   ·rename_i hsz;split at ho
    ·rename_i g m1 hj;rw[S3]at ho;simp only[hole]at ho;have ho:A0j (m1.wLg (A3c m1 11 .byt [y])) m1.lg.nx 11 e g=some (v,m'):=ho;have mj:=N4 hj;have mn:=A0B ho;simp only[B4a,u7,C21]at mn;obtain⟨ρ1,lg,e1,e2,e3,e4,e5,e6⟩:=A15 h hj (hf.less (by omega));have hst:St P base ρ ρ1 m (m1.wLg (A3c m1 11 .byt [y])) w w:=St.trans (hf.less (by simp;omega)) e1 (St.wLg e1.hr _);obtain⟨sb,rfl,f1⟩:=A02 hx htg;obtain⟨r1,r2,_⟩:=A5L (m:=m1) (t:=11) (op:=.byt) (xs:=[y]) (lg:=m'.lg) hS (by rw[u7,mn.2.1];exact .refl _);have r1:Ora.env m1.lg.nx=evU .byt [F8 Ora.env y]:=r1;rw[f1]at r1;have r1:Ora.env m1.lg.nx=.seq false 1 (A3m sb):=r1;obtain⟨cap,C,c1,c2,c3,c4⟩:=B22 (P:=P) (b:=⟨⟨sb⟩⟩) hs ht he w;obtain⟨inf,hinf,hisz⟩:∃ inf,P.info? e=some inf∧inf.size=1:=by
      unfold G7 at hsz;cases hi:P.info? e with
      | none=>rw[hi]at hsz;cases hsz
      | some inf=>rw[hi]at hsz;exact⟨inf,rfl,A8 hsz⟩
     have hbs:ByteArray.size ⟨⟨sb⟩⟩=sb.length:=rfl;rw[hbs]at c1 c4;obtain⟨ρ2,q1,q2⟩:=A1D (w':={ w.drew with heap:=w.heap.push (.cells C e (C.size,C.size+1)) }) (cap:=cap) (C:=C) hst.hr hb ho (by simpa using(hf.less (A7 _)).step e1) r1 rfl hinf hisz (by rw[A22];exact c1) (by omega)
      ((B24 (R:=lg.G) sb).move (o':=0) fun i hi=>by
        rw[A22]at hi;have hil:i<(P8 sb).length:=by simp[P8];omega
        rw[F0,c3 i (P8 sb)[i] (A6 hil)];simp[hil]) e4 (fun i hi hh=>by have:=hh.1;simp only at this;omega) ⟨rfl,rfl,rfl⟩ rfl
     rw[A22]at q1;exact⟨⟨_,ρ2,_,c4,q1,St.trans hf hst q2⟩,by rw[mn.2.1,← mj.2.1];exact⟨[_],rfl⟩⟩
    ·cases ho
   ·cases ho
  ·cases ho
 ·cases ho
theorem B7D{t e:TypeId}{inf:TypeInfo}{z:Value}{k:Nat}(hu:P.underlying t=some (.slice e))(hi:P.info? e=some inf)(hby:inf.bytes≤90000)(h0:0<inf.size)(hz:∀ w,(zeroValue e).run P w=.ok z w)(hk:k≤A7O)(w:World) :
  (Instr.makeSlice t (.int .i64 (Int.ofNat k)) (.int .i64 (Int.ofNat k))).run P w=.ok (.slice (some ⟨w.heap.size,0,none⟩) k k) { w with heap:=w.heap.push (.cells ((Array.range (k*inf.size)).map (z.cells[· % z.cells.size]!)) e (0,0)) }:=by
 have hk:k≤1000000000:=hk;have hs:G7 P e=some inf.size:=by simp[G7,hi]
 have wl:IntKind.i64.wrap (Int.ofNat k)=Int.ofNat k:=A56 .i64 k (by simp only[B4f];omega);have hm:k*inf.bytes≤1000000000*90000:=A4e hk hby;have hroom:(askRoom (k*inf.bytes)).run P w=.ok () w:=by
  unfold askRoom roomBytes;rw[if_neg (by omega)];rfl
 have hcb:((inf.bytes:Int)*(k:Int))=((k*inf.bytes:Nat):Int):=by rw[A0g];simp
 unfold Instr.makeSlice;simp only[Sem.run_bind,D8 hu,asInt,asIntOf,Result.andThen,Sem.run_pure,X3 hi,wl];rw[if_neg]
 ·have hc2:(Int.ofNat k).toNat=k:=by simp
  simp only[Sem.run_bind,Sem.run_pure,Result.andThen,hc2,hroom,K8 hs];by_cases hq:k*inf.size=0
  ·have e0:∀ z:Array Value,Array.map (fun x=>z[x%z.size]!) (Array.range (k*inf.size))=⟨[]⟩:=fun z=>by rw[hq];apply J1;simp
   simp only[if_pos hq,e0];rfl
  ·simp only[if_neg hq,Sem.run_bind,Sem.run_pure,Result.andThen,hz];rfl
 ·have e1:Int.ofNat k=(k:Int):=rfl;simp only[e1,hcb];simp;omega
theorem B7q{R:Nat→Option Obj}{z:Value}{k s:Nat}(h0:0<s)(hs:z.cells.size=s)(hz:LR ρ z.cells.toList z.cells.toList)(ht:∀ v ∈ z.cells.toList,G4 v<10):O9 R (List.replicate k (z.cells.toList.map (F8 Ora.env))) s ((Array.range (k*s)).map (z.cells[· % z.cells.size]!)) 0:=by
 have he:=A6p (R:=R) hz ht;refine⟨fun row hr=>?_,fun r row j u v g1 g2 g3=>?_⟩
 ·rw[(List.mem_replicate.1 hr).2];simp[hs]
 ·have hr:=(A9.1 g1).1;rw[List.length_replicate]at hr;rw[List.getElem?_replicate,if_pos hr]at g1;cases g1;have hj:=(A9.1 g2).1;simp only[W1,T9]at hj;rw[hs]at hj;have hm:(r*s+j)%s=j:=by rw[A0g,Nat.mul_add_mod,A0z hj]
  have hlt:r*s+j<k*s:=by
   have:(r+1)*s≤k*s:=F2 s hr;rw[H1,A2i]at this;omega
  rw[F0,Array.getElem?_map,Array.getElem?_range,if_pos hlt]at g3;simp only[P5,D3,hs,hm]at g3;have hjz:j<z.cells.size:=by omega
  rw[getElem!_pos z.cells j hjz]at g3;refine he.2 j u v g2 ?_;rw[A0p,I6 hjz,g3]
theorem B9H{t:TypeId}{l c l' c' v:Value}(h:HR P base ρ m.H w)(hb:base≤w.heap.size)(ho:B3S P m t l c=some (v,m'))(hf:K4 ρ m.n m'.hi)(hl:VR ρ l l')(hc:VR ρ c c')(hS:Sat m'.lg):VOk P base ρ m w (Instr.makeSlice t l' c') v m'∧m.lg.le m'.lg:=by
 unfold B3S at ho;split at ho
 ·rename_i e i ti j tj hu;obtain⟨hq,ho1⟩:=A5 ho;clear ho;obtain⟨hq,h3⟩:=B8 hq;obtain⟨h1,h2⟩:=B8 hq;have h1:=A2 h1;have h2:=A2 h2;have h3:=A2 h3;subst h1 h2 h3;have ho:=ho1;clear ho1;split at ho
  ·rename_i inf hi;obtain⟨hq,ho⟩:=A5 ho;obtain⟨hby,hsz⟩:=B8 hq;have hby:=A1 hby;have hsz:0<inf.size:=A1 hsz;split at ho
   ·rename_i z hz;obtain⟨hq,ho⟩:=A5 ho;obtain⟨hzs,htg⟩:=B8 hq;have hzs:=A2 hzs;have htg:∀ v ∈ z.cells.toList,G4 v<10:=fun v hv=>A1 (E0.1 htg v hv)
    split at ho
    ·rename_i g m1 hj;rw[S3]at ho;simp only[hole]at ho;have ho:A0j (m1.wLg (A3c m1 (10+inf.size) (.rep inf.size) (hole i 3::z.cells.toList))) m1.lg.nx (10+inf.size) e g=some (v,m'):=ho;have mj:=N4 hj;have mn:=A0B ho;simp only[B4a,u7,C21]at mn;obtain⟨ρ1,lg,e1,e2,e3,e4,e5,e6⟩:=A15 h hj (hf.less (by omega));have hst:St P base ρ ρ1 m (m1.wLg (A3c m1 (10+inf.size) (.rep inf.size) (hole i 3::z.cells.toList))) w w:=St.trans (hf.less (by simp;omega)) e1 (St.wLg e1.hr _);obtain⟨k,n,rfl,f1,f2⟩:=O0 (v:=hole i 3) hl (show(3:Nat)<8 by decide);obtain⟨k2,n2,rfl,f3,f4⟩:=O0 (v:=hole i 3) hc (show(3:Nat)<8 by decide);rw[f1]at f3;cases f3;obtain⟨r1,r2,nul,wd,rows,r3,r4⟩:=A5L (m:=m1) (t:=10+inf.size) (op:=.rep inf.size) (xs:=hole i 3::z.cells.toList) (lg:=m'.lg) hS (by rw[u7,mn.2.1];exact .refl _);have r1:Ora.env m1.lg.nx=evU (.rep inf.size) (F8 Ora.env (hole i 3)::z.cells.toList.map (F8 Ora.env)):=r1;rw[f1]at r1;have hk:k=.i64:=by
      have f2:(3:Nat)=A5D k:=f2;cases k<;>first|rfl|(exfalso;revert f2;decide)
     subst hk;cases n with
     | negSucc q=>rw[r3]at r1;cases r1
     | ofNat q =>
       have r1:Ora.env m1.lg.nx=if(z.cells.toList.map (F8 Ora.env)).length=inf.size∧q≤A7O then .seq false inf.size (List.replicate q (z.cells.toList.map (F8 Ora.env)))else .none:=r1
       by_cases hq:(z.cells.toList.map (F8 Ora.env)).length=inf.size∧q≤A7O
       ·rw[if_pos hq]at r1;obtain⟨ρ2,q1,q2⟩:=A1D (w':={ w with heap:=w.heap.push (.cells ((Array.range (q*inf.size)).map (z.cells[· % z.cells.size]!)) e (0,0)) }) (cap:=q) (fz:=(0,0)) hst.hr hb ho (by simpa using(hf.less (A7 _)).step e1) r1 rfl hi rfl (by simp) (by simp)
         (B7q (ρ:=ρ) hsz hzs (A54 hz) htg) e4 (fun i hi hh=>by have:=hh.2;simp only at this;omega) ⟨rfl,rfl,rfl⟩ rfl
        rw[List.length_replicate]at q1;exact⟨⟨_,ρ2,_,B7D hu hi hby hsz (fun w=>A0_ hz w) hq.2 w,q1,St.trans hf hst q2⟩,by rw[mn.2.1,← mj.2.1];exact⟨[_],rfl⟩⟩
       ·rw[if_neg hq,r3]at r1;cases r1
    ·cases ho
   ·cases ho
  ·cases ho
 ·cases ho
end
end Go.Sx
